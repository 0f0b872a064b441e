/- For all bytes the law answers true: the distances of all words at once are those of each word. -/
import Derived.Test.YtljmhhadclgegaaPFnBatchx14
import Derived.Laws.BitsAllLaws
namespace Go.Proofs.Ytljmhhadclgegaa.Pure
open Go.RowKit Go.Proofs.Ytljmhhadclgegaa.PFnBatch Go.Proofs.YtljmhhadclgegaaW.PrintWords Go.Proofs.YtljmhhadclgegaaW.PrintLast Go.Proofs.YtljmhhadclgegaaW.PrintMore
set_option linter.unusedVariables false
set_option linter.unusedSimpArgs false

def Ev (P : Nat → Prop) : Prop := ∃ K, ∀ k, K ≤ k → P k
theorem Ev.up {P Q : Nat → Prop} (h : Ev P) (f : ∀ k, P k → Q (k + 1)) : Ev Q := by
  obtain ⟨K, h⟩ := h
  exact ⟨K + 1, fun k hk => by
    obtain ⟨m, rfl⟩ : ∃ m, k = m + 1 := ⟨k - 1, by omega⟩
    exact f m (h m (by omega))⟩
theorem Ev.and {P Q : Nat → Prop} (h : Ev P) (h' : Ev Q) : Ev fun k => P k ∧ Q k := by
  obtain ⟨K, h⟩ := h
  obtain ⟨K', h'⟩ := h'
  exact ⟨K + K', fun k hk => ⟨h k (by omega), h' k (by omega)⟩⟩
theorem Ev.imp {P Q : Nat → Prop} (h : Ev P) (f : ∀ k, P k → Q k) : Ev Q := by
  obtain ⟨K, h⟩ := h
  exact ⟨K, fun k hk => f k (h k hk)⟩
theorem Ev.from {P : Nat → Prop} (K : Nat) (h : ∀ k, K ≤ k → P k) : Ev P := ⟨K, h⟩
theorem w_up (n : Nat) (h : n ≤ 2000000) : wrap64 (((n + 1 : Nat) : Int) - 1) = (n : Int) := by unfold wrap64; omega
theorem w_inc (n : Nat) (h : n ≤ 2000000) : wrap64 ((n : Int) + 1) = ((n + 1 : Nat) : Int) := by unfold wrap64; omega
theorem w_half (y : Nat) (h : y < 18446744073709551616) : wrap64 ((y / 2 : Nat) : Int) = ((y / 2 : Nat) : Int) := by unfold wrap64; omega
theorem w_tw (r : Nat) (h : 2 * r ≤ 9223372036854775808) : IntKind.u64.wrap (2 * (r : Int)) = ((2 * r : Nat) : Int) := by rw [IntKind.wrap_u64]; omega
theorem w_sum (a b : Nat) (h : a ≤ b) (hb : b ≤ 9223372036854775808) (h2 : a < b ∨ a < b := by omega) : IntKind.u64.wrap ((a : Int) + (b : Int)) = ((a + b : Nat) : Int) := by rw [IntKind.wrap_u64]; omega
def two64 : Nat := 18446744073709551616
def Uu (l : List Int) : Prop := ∀ x, x ∈ l → 0 ≤ x ∧ x < 18446744073709551616
/-- Plane k of a number, as a natural number. -/
def pl (l : List Int) (k : Nat) : Nat := (rd l (k : Int)).toNat
theorem rd_pl (l : List Int) (h : Uu l) (k : Nat) : rd l (k : Int) = ((pl l k : Nat) : Int) ∧ pl l k < 18446744073709551616 := by
  by_cases c : k < l.length
  · have e : rd l (k : Int) = l[k] := by simp [rd, c]
    have := h l[k] (List.getElem_mem _)
    unfold pl
    rw [e]
    omega
  · have e : rd l (k : Int) = 0 := by simp [rd, List.getElem?_eq_none (Nat.le_of_not_lt c)]
    unfold pl
    rw [e]
    omega
theorem tb (v j : Nat) : v.testBit j = decide (v / 2 ^ j % 2 = 1) := Nat.testBit_eq_decide_div_mod_eq
theorem addpow (x i k : Nat) (h : x < 2 ^ i) : (x + 2 ^ i).testBit k = (decide (k = i) || x.testBit k) := by
  rw [Nat.add_comm]
  rcases Nat.lt_trichotomy k i with c | c | c
  · rw [Nat.testBit_two_pow_add_gt c, decide_eq_false (by omega)]; rfl
  · subst c
    rw [Nat.testBit_two_pow_add_eq, Nat.testBit_lt_two_pow h]; simp
  · have h1 : 2 ^ i + x < 2 ^ k := by
      have : 2 ^ (i + 1) ≤ 2 ^ k := Nat.pow_le_pow_right (by omega) (by omega)
      rw [Nat.pow_succ] at this
      omega
    have h2 : x < 2 ^ k := by omega
    rw [Nat.testBit_lt_two_pow h1, Nat.testBit_lt_two_pow h2, decide_eq_false (by omega)]; rfl
/-- The number of lane j: its lowest i planes. -/
def valTo (l : List Int) (j : Nat) : Nat → Nat
  | 0 => 0
  | i + 1 => if (pl l i).testBit j = true then valTo l j i + 2 ^ i else valTo l j i
theorem valTo_lt (l : List Int) (j : Nat) : ∀ i, valTo l j i < 2 ^ i
  | 0 => by simp [valTo]
  | i + 1 => by
    have := valTo_lt l j i
    unfold valTo
    rw [Nat.pow_succ]
    split <;> omega
theorem valTo_bit (l : List Int) (j k : Nat) : ∀ i, (valTo l j i).testBit k = (decide (k < i) && (pl l k).testBit j)
  | 0 => by simp [valTo]
  | i + 1 => by
    have h := valTo_bit l j k i
    unfold valTo
    by_cases c : (pl l i).testBit j = true
    · rw [if_pos c, addpow _ _ _ (valTo_lt l j i), h]
      by_cases e : k = i
      · subst e; simp [c]
      · have : decide (k < i + 1) = decide (k < i) := by simp; omega
        rw [this, decide_eq_false e]; rfl
    · rw [if_neg c, h]
      by_cases e : k = i
      · subst e; simp [Bool.eq_false_iff.2 c]
      · have : decide (k < i + 1) = decide (k < i) := by simp; omega
        rw [this]
theorem pow_u0 : ∀ (n k r : Nat), n < k → n ≤ 63 → r * 2 ^ n ≤ 9223372036854775808 → 1 ≤ r → spec_l06Power.l0 k (n : Int) (r : Int) = some ((r * 2 ^ n : Nat) : Int)
  | 0, k, r, hk, _, _, _ => by
    obtain ⟨k, rfl⟩ : ∃ m, k = m + 1 := ⟨k - 1, by omega⟩
    simp [spec_l06Power.l0]
  | n + 1, k, r, hk, hn, h, hr => by
    obtain ⟨k, rfl⟩ : ∃ m, k = m + 1 := ⟨k - 1, by omega⟩
    have e : r * 2 ^ (n + 1) = 2 * r * 2 ^ n := by rw [Nat.pow_succ, Nat.mul_comm 2 r, Nat.mul_assoc, Nat.mul_comm 2 (2 ^ n)]
    have hle : 2 * r ≤ 2 * r * 2 ^ n := Nat.le_mul_of_pos_right _ (Nat.two_pow_pos n)
    rw [e] at h ⊢
    have hle2 : 2 * r ≤ 9223372036854775808 := Nat.le_trans hle h
    simp only [spec_l06Power.l0]
    rw [if_pos (by omega), w_up n (by omega), w_tw r hle2]
    exact pow_u0 n k (2 * r) (by omega) (by omega) h (by omega)
theorem pow_u (n k : Nat) (hn : n ≤ 63) (hk : n < k) : spec_l06Power.f k (n : Int) = some ((2 ^ n : Nat) : Int) := by
  have hp : 2 ^ n ≤ 9223372036854775808 := Nat.le_trans (Nat.pow_le_pow_right (by omega) hn) (by decide)
  unfold spec_l06Power.f
  have := pow_u0 n k 1 hk hn (by omega) (by omega)
  simpa using this
/-- The planes of a list's first m numbers. -/
def plist (X : List Int) (p m : Nat) : List Int := (List.range p).map fun (k : Nat) => ((valTo X k m : Nat) : Int)
theorem plist_len (X : List Int) (p m : Nat) : (plist X p m).length = p := by simp [plist]
theorem plist_get (X : List Int) (p m i : Nat) (h : i < (plist X p m).length) : (plist X p m)[i] = ((valTo X i m : Nat) : Int) := by simp [plist]
theorem put_l1 (X : List Int) (hu : Uu X) (hX : X.length ≤ 64) (p : Nat) (hp : p ≤ 64) (m : Nat) (hm : m < X.length) (r : List Int) (tail : Ev fun k => spec_l07Put.l0 k X (p : Int) (plist X p (m + 1)) ((m + 1 : Nat) : Int) = some r) :
    ∀ (d i : Nat) (l : List Int), p - i = d → i ≤ p → l.length = p → l.take i = (plist X p (m + 1)).take i → l.drop i = (plist X p m).drop i → Ev fun k => spec_l07Put.l1 k X (p : Int) l (m : Int) ((pl X m / 2 ^ i : Nat) : Int) (i : Int) = some r := by
  intro d
  induction d with
  | zero =>
    intro i l hd hi hl h1 h2
    have e : i = p := by omega
    subst e
    rw [List.take_of_length_le (by omega), List.take_of_length_le (by rw [plist_len]; omega)] at h1
    subst h1
    refine tail.up fun k hk => ?_
    simp only [spec_l07Put.l1]
    rw [if_neg (by omega), w_inc m (by omega)]
    exact hk
  | succ d ih =>
    intro i l hd hi hl h1 h2
    have hlt : i < p := by omega
    have hp1 : i < (plist X p m).length := by rw [plist_len]; exact hlt
    have hp2 : i < (plist X p (m + 1)).length := by rw [plist_len]; exact hlt
    have hcur : l[i]'(by omega) = ((valTo X i m : Nat) : Int) := by
      have := congrArg (fun z => z[0]?) h2
      simp only [List.getElem?_drop, Nat.add_zero] at this
      rw [List.getElem?_eq_getElem (by omega), List.getElem?_eq_getElem hp1, plist_get] at this
      exact Option.some.inj this
    have hdr : l.drop (i + 1) = (plist X p m).drop (i + 1) := by
      have := congrArg (List.drop 1) h2
      simpa [List.drop_drop, Nat.add_comm] using this
    have hv := rd_pl X hu m
    have hq : pl X m / 2 ^ i ≤ pl X m := Nat.div_le_self _ _
    have e2 : pl X m / 2 ^ (i + 1) = pl X m / 2 ^ i / 2 := by rw [Nat.pow_succ, Nat.div_div_eq_div_mul]
    have hlow := valTo_lt X i m
    have h64 : 2 ^ m ≤ 9223372036854775808 := Nat.le_trans (Nat.pow_le_pow_right (by omega) (show m ≤ 63 by omega)) (by decide)
    by_cases c : (pl X m).testBit i = true
    · have hodd : pl X m / 2 ^ i % 2 = 1 := by rw [tb] at c; exact of_decide_eq_true c
      have hnew : valTo X i (m + 1) = valTo X i m + 2 ^ m := by rw [valTo, if_pos c]
      have ht : (l.set i ((valTo X i (m + 1) : Nat) : Int)).take (i + 1) = (plist X p (m + 1)).take (i + 1) := by
        rw [List.take_add_one, List.take_add_one, List.take_set_of_le (Nat.le_refl _), h1, List.getElem?_eq_getElem hp2, plist_get]
        simp [hl, hlt]
      refine ((ih (i + 1) (l.set i ((valTo X i (m + 1) : Nat) : Int)) (by omega) (by omega) (by simpa using hl) ht (by rw [List.drop_set_of_lt (by omega)]; exact hdr)).and (Ev.from (P := fun k => m < k) (m + 1) fun k hk => hk)).up fun k hk => ?_
      obtain ⟨hk, hk2⟩ := hk
      rw [e2] at hk
      simp only [spec_l07Put.l1]
      have er : rd l (i : Int) = ((valTo X i m : Nat) : Int) := by
        rw [← hcur]; simp [rd, hl, hlt]
      rw [er, pow_u m k (by omega) hk2]
      generalize pl X m / 2 ^ i = y at hk hq hodd ⊢
      rw [if_pos (by omega), if_pos (by rw [show Int.tmod (y : Int) 2 = ((y % 2 : Nat) : Int) from rfl, hodd]; rfl), if_pos (by omega), if_pos (by omega)]
      simp only [Option.bind_some]
      rw [Int.toNat_natCast, w_sum (valTo X i m) (2 ^ m) (by omega) h64, ← hnew, show Int.tdiv (y : Int) 2 = ((y / 2 : Nat) : Int) from rfl, w_half y (by omega), w_inc i (by omega)]
      exact hk
    · have heven : ¬ pl X m / 2 ^ i % 2 = 1 := by rw [tb] at c; intro h; exact c (decide_eq_true h)
      have hnew : valTo X i (m + 1) = valTo X i m := by rw [valTo, if_neg c]
      have ht : l.take (i + 1) = (plist X p (m + 1)).take (i + 1) := by
        rw [List.take_add_one, List.take_add_one, h1, List.getElem?_eq_getElem hp2, plist_get, List.getElem?_eq_getElem (by omega), hcur, hnew]
      refine (ih (i + 1) l (by omega) (by omega) hl ht hdr).up fun k hk => ?_
      rw [e2] at hk
      simp only [spec_l07Put.l1]
      generalize pl X m / 2 ^ i = y at hk hq heven ⊢
      rw [if_pos (by omega), if_neg (by rw [show Int.tmod (y : Int) 2 = ((y % 2 : Nat) : Int) from rfl]; omega), show Int.tdiv (y : Int) 2 = ((y / 2 : Nat) : Int) from rfl, w_half y (by omega), w_inc i (by omega)]
      exact hk
theorem put_l0 (X : List Int) (hu : Uu X) (hX : X.length ≤ 64) (p : Nat) (hp : p ≤ 64) : ∀ (d m : Nat), X.length - m = d → m ≤ X.length → Ev fun k => spec_l07Put.l0 k X (p : Int) (plist X p m) (m : Int) = some (plist X p X.length) := by
  intro d
  induction d with
  | zero =>
    intro m hd hm
    have e : m = X.length := by omega
    refine Ev.from 1 fun k hk => ?_
    obtain ⟨k, rfl⟩ : ∃ m, k = m + 1 := ⟨k - 1, by omega⟩
    simp only [spec_l07Put.l0]
    rw [if_neg (by omega), e]
  | succ d ih =>
    intro m hd hm
    have hlt : m < X.length := by omega
    have l1 := put_l1 X hu hX p hp m hlt _ (ih (m + 1) (by omega) (by omega)) p 0 (plist X p m) (by omega) (by omega) (plist_len X p m) rfl rfl
    refine l1.up fun k hk => ?_
    simp only [spec_l07Put.l0]
    rw [if_pos (by omega), if_pos (by omega), (rd_pl X hu m).1]
    rw [Nat.pow_zero, Nat.div_one] at hk
    exact hk
theorem put_eq (X : List Int) (hu : Uu X) (hX : X.length ≤ 64) (p : Nat) (hp : p ≤ 64) : Ev fun k => spec_l07Put.f k X (p : Int) = some (plist X p X.length) := by
  refine (put_l0 X hu hX p hp X.length 0 (by omega) (by omega)).imp fun k hk => ?_
  unfold spec_l07Put.f
  rw [if_pos (by omega), if_pos (by omega), Int.toNat_natCast]
  have e : plist X p 0 = List.replicate p 0 := by
    apply List.ext_getElem
    · simp [plist]
    · intro i h1 h2
      rw [plist_get]; simp [valTo]
  rw [e] at hk
  exact hk
theorem and1 (y : Nat) (h : y < 4294967296) : Go.bits .and .i64 (y : Int) 1 = ((y % 2 : Nat) : Int) := by
  have h1 : (BitVec.ofInt 64 (y : Int)).toNat = y := by
    rw [BitVec.ofInt_natCast, BitVec.toNat_ofNat]; exact Nat.mod_eq_of_lt (by omega)
  have h2 : (BitVec.ofInt 64 (1 : Int)).toNat = 1 := by decide
  show IntKind.i64.wrap ((BitVec.ofInt 64 (y : Int) &&& BitVec.ofInt 64 (1 : Int)).toNat : Int) = _
  rw [BitVec.toNat_and, h1, h2, Nat.and_one_is_mod, IntKind.wrap_i64]
  omega
theorem shr_n (x y : Nat) (h : y ≤ 64) : shr .i64 (x : Int) (y : Int) = ((x / 2 ^ y : Nat) : Int) := by
  unfold shr
  rw [Int.toNat_natCast, show min y IntKind.i64.bits = y from Nat.min_eq_left h]
  rw [Int.natCast_ediv, Int.natCast_pow]; rfl
theorem or_pow (x m : Nat) (h : x < 2 ^ m) : x ||| 2 ^ m = x + 2 ^ m := by
  apply Nat.eq_of_testBit_eq
  intro k
  rw [addpow x m k h, Nat.testBit_or, Nat.testBit_two_pow]
  by_cases e : k = m
  · subst e; simp
  · rw [decide_eq_false e, decide_eq_false (fun h => e h.symm)]; simp
theorem shl_b (b m : Nat) (hb : b ≤ 1) (hm : m ≤ 63) : shl .u64 (IntKind.u64.wrap (b : Int)) (m : Int) = ((b * 2 ^ m : Nat) : Int) := by
  have hp : 2 ^ m ≤ 9223372036854775808 := Nat.le_trans (Nat.pow_le_pow_right (by omega) hm) (by decide)
  have e1 : IntKind.u64.wrap (b : Int) = (b : Int) := by rw [IntKind.wrap_u64]; omega
  unfold shl
  rw [e1, Int.toNat_natCast, show min m IntKind.u64.bits = m from Nat.min_eq_left (show m ≤ 64 by omega), IntKind.wrap_u64]
  have e2 : (b : Int) * 2 ^ m = ((b * 2 ^ m : Nat) : Int) := by rw [Int.natCast_mul, Int.natCast_pow]; rfl
  rw [e2]
  have hle : b * 2 ^ m ≤ 1 * 2 ^ m := Nat.mul_le_mul_right _ hb
  generalize b * 2 ^ m = z at hle ⊢
  omega
/-- One lane more: what setLane makes of the planes. -/
theorem lane_l0 (X : List Int) (p : Nat) (hp : p ≤ 160) (m : Nat) (hm : m < 64) (n : Nat) (hn : n < 65536) (hX : pl X m = n) : ∀ (d k i : Nat) (l : List Int), p - i = d → i ≤ p → d < k → l.length = p → p ≤ 64 → l.take i = (plist X p (m + 1)).take i → l.drop i = (plist X p m).drop i → impl_setLane.l0 k l (m : Int) (n : Int) (p : Int) (i : Int) = some (plist X p (m + 1)) := by
  intro d
  induction d with
  | zero =>
    intro k i l hd hi hk hl _ h1 h2
    obtain ⟨k, rfl⟩ : ∃ m, k = m + 1 := ⟨k - 1, by omega⟩
    rw [List.take_of_length_le (by omega), List.take_of_length_le (by rw [plist_len]; omega)] at h1
    simp only [impl_setLane.l0]
    rw [if_neg (by omega), h1]
  | succ d ih =>
    intro k i l hd hi hk hl h64 h1 h2
    obtain ⟨k, rfl⟩ : ∃ m, k = m + 1 := ⟨k - 1, by omega⟩
    have hlt : i < p := by omega
    have hp1 : i < (plist X p m).length := by rw [plist_len]; exact hlt
    have hp2 : i < (plist X p (m + 1)).length := by rw [plist_len]; exact hlt
    have hcur : l[i]'(by omega) = ((valTo X i m : Nat) : Int) := by
      have := congrArg (fun z => z[0]?) h2
      simp only [List.getElem?_drop, Nat.add_zero] at this
      rw [List.getElem?_eq_getElem (by omega), List.getElem?_eq_getElem hp1, plist_get] at this
      exact Option.some.inj this
    have hdr : l.drop (i + 1) = (plist X p m).drop (i + 1) := by
      have := congrArg (List.drop 1) h2
      simpa [List.drop_drop, Nat.add_comm] using this
    have er : rd l (i : Int) = ((valTo X i m : Nat) : Int) := by
      rw [← hcur]; simp [rd, hl, hlt]
    have hq : n / 2 ^ i ≤ n := Nat.div_le_self _ _
    have hv := valTo_lt X i m
    have hp63 : 2 ^ m ≤ 9223372036854775808 := Nat.le_trans (Nat.pow_le_pow_right (by omega) (show m ≤ 63 by omega)) (by decide)
    have hnew : ((valTo X i (m + 1) : Nat) : Int) = Go.bits .or .u64 (rd l (i : Int)) (shl .u64 (IntKind.u64.wrap (Go.bits .and .i64 (shr .i64 (n : Int) (i : Int)) 1)) (m : Int)) := by
      rw [er, shr_n n i (by omega), and1 _ (by omega), shl_b _ m (by omega) (by omega)]
      rw [show valTo X i (m + 1) = (if (pl X m).testBit i = true then valTo X i m + 2 ^ m else valTo X i m) from rfl, hX, tb]
      by_cases c : n / 2 ^ i % 2 = 1
      · rw [decide_eq_true c, if_pos rfl, c, Nat.one_mul, bits_or_u64_nat _ _ (by omega) (by omega), or_pow _ _ hv]
      · have c0 : n / 2 ^ i % 2 = 0 := by omega
        rw [decide_eq_false c, if_neg (by decide), c0, Nat.zero_mul, bits_or_u64_nat _ _ (by omega) (by omega), Nat.or_zero]
    simp only [impl_setLane.l0]
    rw [if_pos (by omega), if_pos (by omega), if_pos (by omega), if_pos (by omega), Int.toNat_natCast, ← hnew, w_inc i (by omega)]
    refine ih k (i + 1) _ (by omega) (by omega) (by omega) (by simpa using hl) h64 ?_ (by rw [List.drop_set_of_lt (by omega)]; exact hdr)
    rw [List.take_add_one, List.take_add_one, List.take_set_of_le (Nat.le_refl _), h1, List.getElem?_eq_getElem hp2, plist_get]
    simp [hl, hlt]
theorem lane_eq (X : List Int) (p : Nat) (h64 : p ≤ 64) (m : Nat) (hm : m < 64) (n : Nat) (hn : n < 65536) (hX : pl X m = n) (k : Nat) (hk : p < k) : impl_setLane.f k (plist X p m) (m : Int) (n : Int) = some (plist X p (m + 1)) := by
  unfold impl_setLane.f
  rw [plist_len]
  exact lane_l0 X p (by omega) m hm n hn hX p k 0 (plist X p m) (by omega) (by omega) hk (plist_len X p m) h64 rfl rfl
def letB (c : Int) : Bool := decide (97 ≤ c) && decide (c ≤ 122)
/-- Are the d bytes from i on letters? -/
def lets (s : ByteArray) : Nat → Nat → Bool
  | 0, _ => true
  | d + 1, i => letB (bt s (i : Int)) && lets s d (i + 1)
theorem lets_succ (s : ByteArray) (d i : Nat) : lets s (d + 1) i = (letB (bt s (i : Int)) && lets s d (i + 1)) := rfl
def wordB (s : ByteArray) : Bool := decide (1 ≤ s.size) && (decide (s.size ≤ 32) && lets s s.size 0)
theorem wr1w (i : Nat) (h : i ≤ 1048576) : wrap64 ((i : Int) + 1) = ((i + 1 : Nat) : Int) := by unfold wrap64; omega
theorem wordOk_l0 (s : ByteArray) (hs : s.size ≤ 1048576) : ∀ (d k i : Nat), s.size = i + d → d < k → spec_WordOk.l0 k s (i : Int) = some (lets s d i) := by
  intro d
  induction d with
  | zero =>
    intro k i hi hk
    obtain ⟨k, rfl⟩ : ∃ m, k = m + 1 := ⟨k - 1, by omega⟩
    simp only [spec_WordOk.l0]
    rw [if_neg (by omega)]; rfl
  | succ d ih =>
    intro k i hi hk
    obtain ⟨k, rfl⟩ : ∃ m, k = m + 1 := ⟨k - 1, by omega⟩
    simp only [spec_WordOk.l0]
    rw [if_pos (by omega), if_pos (by omega), wr1w i (by omega), ih k (i + 1) (by omega) (by omega)]
    rw [lets_succ]
    unfold letB
    by_cases c1 : bt s (i : Int) < 97
    · rw [if_pos c1, decide_eq_false (by omega)]; rfl
    · rw [if_neg c1, decide_eq_true (show 97 ≤ bt s (i : Int) by omega)]
      by_cases c2 : bt s (i : Int) > 122
      · rw [if_pos c2, decide_eq_false (by omega)]; rfl
      · rw [if_neg c2, decide_eq_true (show bt s (i : Int) ≤ 122 by omega)]; rfl
theorem wordOk_eq (s : ByteArray) (hs : s.size ≤ 1048576) (k : Nat) (hk : s.size + 1 < k) : spec_WordOk.f k s = some (wordB s) := by
  obtain ⟨k, rfl⟩ : ∃ m, k = m + 1 := ⟨k - 1, by omega⟩
  unfold spec_WordOk.f wordB
  by_cases c1 : (s.size : Int) < 1
  · rw [if_pos c1, decide_eq_false (by omega)]
    simp [spec_WordOk.j0]
  · rw [if_neg c1, decide_eq_true (show 1 ≤ s.size by omega)]
    by_cases c2 : (s.size : Int) > 32
    · rw [decide_eq_true c2, decide_eq_false (show ¬ s.size ≤ 32 by omega)]
      simp [spec_WordOk.j0]
    · rw [decide_eq_false c2, decide_eq_true (show s.size ≤ 32 by omega)]
      simp only [spec_WordOk.j0]
      have := wordOk_l0 s hs s.size k 0 (by omega) (by omega)
      rw [show ((0 : Nat) : Int) = 0 from rfl] at this
      rw [if_neg (by decide), this]; rfl
theorem within_eq (a b c : Int) : impl_within.f a b c = some (decide (b ≤ a) && decide (a ≤ c)) := by
  unfold impl_within.f
  by_cases c1 : a ≥ b
  · rw [if_pos c1, decide_eq_true (show b ≤ a from c1)]; rfl
  · rw [if_neg c1, decide_eq_false (show ¬ b ≤ a from c1)]; rfl
theorem isWord_l0 (s : ByteArray) (hs : s.size ≤ 1048576) : ∀ (d k i : Nat), s.size = i + d → d < k → impl_isWord.l0 k s (s.size : Int) (i : Int) = some (lets s d i && (decide (1 ≤ s.size) && decide (s.size ≤ 32))) := by
  intro d
  induction d with
  | zero =>
    intro k i hi hk
    obtain ⟨k, rfl⟩ : ∃ m, k = m + 1 := ⟨k - 1, by omega⟩
    simp only [impl_isWord.l0]
    rw [if_neg (by omega), within_eq]
    simp only [Option.bind_some, lets, Bool.true_and]
    congr 2
    · exact decide_eq_decide.2 (by omega)
    · exact decide_eq_decide.2 (by omega)
  | succ d ih =>
    intro k i hi hk
    obtain ⟨k, rfl⟩ : ∃ m, k = m + 1 := ⟨k - 1, by omega⟩
    simp only [impl_isWord.l0]
    rw [if_pos (by omega), if_pos (by omega), if_pos (by omega), wr1w i (by omega), ih k (i + 1) (by omega) (by omega)]
    rw [lets_succ]
    unfold letB
    by_cases c1 : bt s (i : Int) < 97
    · rw [if_pos c1, decide_eq_false (by omega)]; rfl
    · rw [if_neg c1, decide_eq_true (show 97 ≤ bt s (i : Int) by omega)]
      by_cases c2 : bt s (i : Int) > 122
      · rw [if_pos c2, decide_eq_false (by omega)]; rfl
      · rw [if_neg c2, decide_eq_true (show bt s (i : Int) ≤ 122 by omega)]; rfl
theorem isWord_eq (s : ByteArray) (hs : s.size ≤ 1048576) (k : Nat) (hk : s.size < k) : impl_isWord.f k s = some (wordB s) := by
  unfold impl_isWord.f wordB
  have := isWord_l0 s hs s.size k 0 (by omega) hk
  rw [show ((0 : Nat) : Int) = 0 from rfl] at this
  rw [this]
  congr 1
  cases lets s s.size 0 <;> cases decide (1 ≤ s.size) <;> cases decide (s.size ≤ 32) <;> rfl
theorem shr_uL (v j : Nat) (h : j ≤ 64) : shr .u64 (v : Int) (j : Int) = ((v / 2 ^ j : Nat) : Int) := by
  unfold shr
  rw [Int.toNat_natCast, show min j IntKind.u64.bits = j from Nat.min_eq_left h, Int.natCast_ediv, Int.natCast_pow]; rfl
theorem or_i64 (x y : Nat) (hx : x < 4294967296) (hy : y < 4294967296) : Go.bits .or .i64 (x : Int) (y : Int) = ((x ||| y : Nat) : Int) := by
  have h1 : (BitVec.ofInt 64 (x : Int)).toNat = x := by
    rw [BitVec.ofInt_natCast, BitVec.toNat_ofNat]; exact Nat.mod_eq_of_lt (by omega)
  have h2 : (BitVec.ofInt 64 (y : Int)).toNat = y := by
    rw [BitVec.ofInt_natCast, BitVec.toNat_ofNat]; exact Nat.mod_eq_of_lt (by omega)
  show IntKind.i64.wrap ((BitVec.ofInt 64 (x : Int) ||| BitVec.ofInt 64 (y : Int)).toNat : Int) = _
  rw [BitVec.toNat_or, h1, h2, IntKind.wrap_i64]
  have := Nat.or_lt_two_pow (n := 32) (show x < 2 ^ 32 by omega) (show y < 2 ^ 32 by omega)
  omega
theorem shl_i (b i : Nat) (hi : i ≤ 29) (hb : b ≤ 1) : shl .i64 (wrap64 (b : Int)) (i : Int) = ((b * 2 ^ i : Nat) : Int) := by
  have hpi : 2 ^ i ≤ 536870912 := Nat.le_trans (Nat.pow_le_pow_right (by omega) hi) (by decide)
  have e1 : wrap64 (b : Int) = (b : Int) := by clear hpi; unfold wrap64; omega
  unfold shl
  rw [e1, Int.toNat_natCast, show min i IntKind.i64.bits = i from Nat.min_eq_left (show i ≤ 64 by omega), IntKind.wrap_i64]
  have e3 : (b : Int) * 2 ^ i = ((b * 2 ^ i : Nat) : Int) := by rw [Int.natCast_mul, Int.natCast_pow]; rfl
  rw [e3]
  have h2 : b * 2 ^ i ≤ 536870912 := Nat.le_trans (Nat.mul_le_mul_right _ hb) (by rw [Nat.one_mul]; exact hpi)
  clear hpi e3 e1
  generalize b * 2 ^ i = z at h2 ⊢
  omega
theorem or_step (v b i : Nat) (hv : v < 2 ^ i) (hi : i ≤ 29) (hb : b ≤ 1) : Go.bits .or .i64 (v : Int) (shl .i64 (wrap64 (b : Int)) (i : Int)) = (((if decide (b = 1) = true then v + 2 ^ i else v) : Nat) : Int) := by
  have hpi : 2 ^ i ≤ 536870912 := Nat.le_trans (Nat.pow_le_pow_right (by omega) hi) (by decide)
  have hv2 : v < 4294967296 := Nat.lt_of_lt_of_le hv (Nat.le_trans hpi (by decide))
  rw [shl_i b i hi hb]
  match b, hb with
  | 0, _ =>
    rw [Nat.zero_mul, or_i64 v 0 hv2 (by decide), Nat.or_zero]; rfl
  | 1, _ =>
    rw [Nat.one_mul, or_i64 v _ hv2 (Nat.lt_of_le_of_lt hpi (by decide)), or_pow _ _ hv]; rfl
theorem and_bit (v j : Nat) (hv : v < 18446744073709551616) (hj : j < 64) : Go.bits .and .u64 (shr .u64 (v : Int) (j : Int)) 1 = ((v / 2 ^ j % 2 : Nat) : Int) := by
  have hle : v / 2 ^ j ≤ v := Nat.div_le_self _ _
  rw [shr_uL _ j (by omega), show (1 : Int) = ((1 : Nat) : Int) from rfl, bits_and_u64_nat (v / 2 ^ j) 1 (Nat.lt_of_le_of_lt hle hv) (by decide), Nat.and_one_is_mod]
theorem laneOf_l0 (l : List Int) (hu : Uu l) (hl : l.length ≤ 30) (j : Nat) (hj : j < 64) : ∀ (d k i : Nat), l.length - i = d → i ≤ l.length → d < k → impl_laneOf.l0 k (j : Int) ((valTo l j i : Nat) : Int) l (l.length : Int) (i : Int) = some ((valTo l j l.length : Nat) : Int) := by
  intro d
  induction d with
  | zero =>
    intro k i hd hi hk
    obtain ⟨k, rfl⟩ : ∃ m, k = m + 1 := ⟨k - 1, by omega⟩
    simp only [impl_laneOf.l0]
    rw [if_neg (by omega), show i = l.length by omega]
  | succ d ih =>
    intro k i hd hi hk
    obtain ⟨k, rfl⟩ : ∃ m, k = m + 1 := ⟨k - 1, by omega⟩
    have q := rd_pl l hu i
    have hnew : Go.bits .or .i64 ((valTo l j i : Nat) : Int) (shl .i64 (wrap64 (Go.bits .and .u64 (shr .u64 (rd l (i : Int)) (j : Int)) 1)) (i : Int)) = ((valTo l j (i + 1) : Nat) : Int) := by
      rw [q.1, and_bit _ j q.2 hj, or_step _ _ i (valTo_lt l j i) (by omega) (Nat.le_of_lt_succ (Nat.mod_lt _ (by decide))), ← tb]
      rfl
    simp only [impl_laneOf.l0]
    rw [if_pos (by omega), if_pos (by omega), if_pos (by omega), if_pos (by omega), hnew, w_inc i (by omega)]
    exact ih k (i + 1) (by omega) (by omega) (by omega)
theorem laneOf_eq (l : List Int) (hu : Uu l) (hl : l.length ≤ 30) (j : Nat) (hj : j < 64) (k : Nat) (hk : l.length < k) : impl_laneOf.f k l (j : Int) = some ((valTo l j l.length : Nat) : Int) := by
  unfold impl_laneOf.f
  have := laneOf_l0 l hu hl j hj l.length k 0 (by omega) (by omega) hk
  simpa [valTo] using this
theorem val_plist (X : List Int) (p j : Nat) (hb : pl X j < 2 ^ p) : valTo (plist X p X.length) j p = pl X j := by
  apply Nat.eq_of_testBit_eq
  intro k
  rw [valTo_bit]
  by_cases c : k < p
  · have e : pl (plist X p X.length) k = valTo X k X.length := by
      unfold pl
      have : rd (plist X p X.length) (k : Int) = ((valTo X k X.length : Nat) : Int) := by
        simp [rd, plist, c]
      rw [this, Int.toNat_natCast]
    rw [decide_eq_true c, Bool.true_and, e, valTo_bit]
    by_cases d : j < X.length
    · rw [decide_eq_true d, Bool.true_and]
    · rw [decide_eq_false d, Bool.false_and]
      have : pl X j = 0 := by
        unfold pl
        simp [rd, List.getElem?_eq_none (Nat.le_of_not_lt d)]
      rw [this]; simp
  · rw [decide_eq_false c, Bool.false_and]
    exact (Nat.testBit_lt_two_pow (Nat.lt_of_lt_of_le hb (Nat.pow_le_pow_right (by omega) (by omega)))).symm
theorem str_bytes (s : ByteArray) : strOfNums (bytesOf s) = s := by
  cases s with
  | mk data =>
    unfold strOfNums bytesOf
    congr 1
    apply Array.toList_inj.1
    have e : (fun n : Int => UInt8.ofNat n.toNat) ∘ (fun b : UInt8 => (b.toNat : Int)) = id := funext fun b => by simp
    show List.map _ (List.map _ data.toList) = data.toList
    rw [List.map_map, e, List.map_id]
theorem bytes_at (s : ByteArray) (i : Nat) (h : i < s.size) (h' : i < (bytesOf s).length) : (bytesOf s)[i] = bt s (i : Int) := by
  rw [← bt_at s (i : Int) (by simpa using h)]
  simp [bytesOf]
  rfl
theorem plist0 (X : List Int) (p : Nat) : plist X p 0 = List.replicate p 0 := by
  apply List.ext_getElem
  · simp [plist]
  · intro i h1 h2
    rw [plist_get]; simp [valTo]
theorem toList_nil {s : ByteArray} (hs : s.toList = []) : s.size = 0 := by
  rw [ByteArray.toList_eq] at hs
  rw [← data_length, hs]; rfl
theorem lets_at (s : ByteArray) : ∀ (d i : Nat), lets s d i = true → ∀ j, i ≤ j → j < i + d → 97 ≤ bt s (j : Int) ∧ bt s (j : Int) ≤ 122
  | 0, i, _, j, h1, h2 => by omega
  | d + 1, i, h, j, h1, h2 => by
    rw [lets_succ, Bool.and_eq_true] at h
    by_cases e : j = i
    · subst e
      have := h.1
      unfold letB at this
      rw [Bool.and_eq_true, decide_eq_true_eq, decide_eq_true_eq] at this
      exact this
    · exact lets_at s d (i + 1) h.2 j (by omega) (by omega)
/-- A word that may be laid: empty, or a word. -/
def wOk (b : ByteArray) : Bool := if b.toList = ([] : List UInt8) then true else wordB b
theorem wOk_sz (b : ByteArray) (h : wOk b = true) : b.size ≤ 32 ∧ ∀ j, j < b.size → 97 ≤ bt b (j : Int) ∧ bt b (j : Int) ≤ 122 := by
  unfold wOk at h
  by_cases c : b.toList = ([] : List UInt8)
  · have := toList_nil c
    exact ⟨by omega, fun j hj => by omega⟩
  · rw [if_neg c] at h
    unfold wordB at h
    rw [Bool.and_eq_true, Bool.and_eq_true, decide_eq_true_eq, decide_eq_true_eq] at h
    exact ⟨h.2.1, fun j hj => lets_at b b.size 0 h.2.2 j (by omega) (by omega)⟩
def wd (l : List ByteArray) (m : Nat) : ByteArray := rdOf ByteArray.empty l (m : Int)
theorem wd_get (l : List ByteArray) (m : Nat) (h : m < l.length) : wd l m = l[m] := by simp [wd, rdOf, h]
def allW (l : List ByteArray) : Nat → Bool
  | 0 => true
  | m + 1 => allW l m && wOk (wd l m)
theorem allW_at (l : List ByteArray) : ∀ m, allW l m = true → ∀ j, j < m → wOk (wd l j) = true
  | 0, _, j, hj => by omega
  | m + 1, h, j, hj => by
    unfold allW at h
    rw [Bool.and_eq_true] at h
    by_cases e : j = m
    · subst e; exact h.2
    · exact allW_at l m h.1 j (by omega)
theorem allW_no (l : List ByteArray) (m : Nat) (h : wOk (wd l m) = false) : ∀ n, m < n → allW l n = false := by
  intro n hn
  cases hc : allW l n with
  | false => rfl
  | true => rw [allW_at l n hc m hn] at h; cases h
def lensL (l : List ByteArray) : List Int := l.map fun b => (b.size : Int)
def code (b : ByteArray) (p : Nat) : Int := if p < b.size then bt b (p : Int) - 96 else 0
def codes (l : List ByteArray) (p : Nat) : List Int := l.map fun b => code b p
theorem lens_len (l : List ByteArray) : (lensL l).length = l.length := by simp [lensL]
theorem codes_len (l : List ByteArray) (p : Nat) : (codes l p).length = l.length := by simp [codes]
theorem lens_pl (l : List ByteArray) (m : Nat) (h : m < l.length) : pl (lensL l) m = (wd l m).size := by
  rw [wd_get l m h]
  simp [pl, rd, lensL, h]
theorem codes_pl (l : List ByteArray) (p m : Nat) (h : m < l.length) : pl (codes l p) m = (code (wd l m) p).toNat := by
  rw [wd_get l m h]
  simp [pl, rd, codes, h]
theorem code_range (b : ByteArray) (h : wOk b = true) (p : Nat) : 0 ≤ code b p ∧ code b p ≤ 26 := by
  unfold code
  split
  · rename_i hp
    have := (wOk_sz b h).2 p hp
    omega
  · omega
theorem all_mem (l : List ByteArray) (h : allW l l.length = true) (b : ByteArray) (hb : b ∈ l) : wOk b = true := by
  obtain ⟨j, hj, rfl⟩ := List.getElem_of_mem hb
  have := allW_at l l.length h j hj
  rwa [wd_get l j hj] at this
theorem lens_u (l : List ByteArray) (h : allW l l.length = true) : Uu (lensL l) := by
  intro x hx
  obtain ⟨b, hb, rfl⟩ := List.mem_map.1 hx
  have := (wOk_sz b (all_mem l h b hb)).1
  omega
theorem codes_u (l : List ByteArray) (h : allW l l.length = true) (p : Nat) : Uu (codes l p) := by
  intro x hx
  obtain ⟨b, hb, rfl⟩ := List.mem_map.1 hx
  have := code_range b (all_mem l h b hb) p
  omega
/-- The letters' planes after m lanes; the lane that is being laid has its first q cells. -/
def flF (l : List ByteArray) (m q i : Nat) : Int := ((valTo (codes l (i / 5)) (i % 5) (if i < q then m + 1 else m) : Nat) : Int)
def flat (l : List ByteArray) (m q : Nat) : List Int := (List.range 160).map (flF l m q)
theorem flat_len (l : List ByteArray) (m q : Nat) : (flat l m q).length = 160 := by simp [flat]
theorem flat_get (l : List ByteArray) (m q i : Nat) (h : i < (flat l m q).length) : (flat l m q)[i] = flF l m q i := by simp [flat]
theorem flat_sub (l : List ByteArray) (m p : Nat) (hp : p < 32) : ((flat l m (5 * p)).drop (5 * p)).take 5 = plist (codes l p) 5 m := by
  apply List.ext_getElem
  · simp [flat, plist]; omega
  · intro i h1 h2
    have hi : i < 5 := by simpa [plist] using h2
    rw [List.getElem_take, List.getElem_drop, flat_get, plist_get]
    unfold flF
    rw [show (5 * p + i) / 5 = p from by omega, show (5 * p + i) % 5 = i from by omega, if_neg (by omega)]
theorem flat_put (l : List ByteArray) (m p : Nat) (hp : p < 32) : (flat l m (5 * p)).take (5 * p) ++ (plist (codes l p) 5 (m + 1) ++ (flat l m (5 * p)).drop (5 * p + 5)) = flat l m (5 * (p + 1)) := by
  have hA : ((flat l m (5 * p)).take (5 * p)).length = 5 * p := by rw [List.length_take, flat_len]; omega
  apply List.ext_getElem
  · simp [flat, plist]; omega
  · intro i h1 h2
    rw [flat_len] at h2
    rw [flat_get]
    by_cases c1 : i < 5 * p
    · rw [List.getElem_append_left (by omega), List.getElem_take, flat_get]
      unfold flF
      rw [if_pos c1, if_pos (by omega)]
    · rw [List.getElem_append_right (by omega)]
      simp only [hA]
      by_cases c2 : i < 5 * p + 5
      · rw [List.getElem_append_left (by rw [plist_len]; omega), plist_get]
        unfold flF
        rw [show i / 5 = p from by omega, show i % 5 = i - 5 * p from by omega, if_pos (by omega)]
      · rw [List.getElem_append_right (by rw [plist_len]; omega), List.getElem_drop, flat_get]
        simp only [plist_len]
        unfold flF
        rw [show 5 * p + 5 + (i - 5 * p - 5) = i from by omega, if_neg c1, if_neg (by omega)]
theorem flat_end (l : List ByteArray) (m : Nat) (hm : m < l.length) (q : Nat) (hq : (wd l m).size = q) : flat l m (5 * q) = flat l (m + 1) 0 := by
  apply List.ext_getElem
  · rw [flat_len, flat_len]
  · intro i h1 h2
    rw [flat_get, flat_get]
    unfold flF
    rw [if_neg (show ¬ i < 0 by omega)]
    by_cases c : i < 5 * q
    · rw [if_pos c]
    · rw [if_neg c]
      have e : pl (codes l (i / 5)) m = 0 := by
        rw [codes_pl l _ m hm]
        unfold code
        rw [if_neg (by omega)]; rfl
      congr 1
      rw [show valTo (codes l (i / 5)) (i % 5) (m + 1) = (if (pl (codes l (i / 5)) m).testBit (i % 5) = true then valTo (codes l (i / 5)) (i % 5) m + 2 ^ m else valTo (codes l (i / 5)) (i % 5) m) from rfl, e]
      simp
theorem flat_zero (l : List ByteArray) : flat l 0 0 = List.replicate 160 0 := by
  apply List.ext_getElem
  · simp [flat]
  · intro i h1 h2
    rw [flat_get]
    unfold flF
    rw [if_neg (by omega), List.getElem_replicate]
    simp [valTo]
theorem flat_take (l : List ByteArray) (m p : Nat) (hp : p < 32) : (flat l m 0).take (5 * p) ++ plist (codes l p) 5 m = (flat l m 0).take (5 * (p + 1)) := by
  have hA : ((flat l m 0).take (5 * p)).length = 5 * p := by rw [List.length_take, flat_len]; omega
  apply List.ext_getElem
  · simp [flat, plist]; omega
  · intro i h1 h2
    have h3 : i < 5 * (p + 1) := by rw [List.length_take] at h2; omega
    rw [List.getElem_take, flat_get]
    by_cases c1 : i < 5 * p
    · rw [List.getElem_append_left (by omega), List.getElem_take, flat_get]
    · rw [List.getElem_append_right (by omega)]
      simp only [hA]
      rw [plist_get]
      unfold flF
      rw [show i / 5 = p from by omega, show i % 5 = i - 5 * p from by omega, if_neg (by omega)]
theorem flat_start (l : List ByteArray) (m : Nat) : flat l m 0 = flat l m (5 * 0) := rfl
def planT (l : List ByteArray) : Int × List Int × List Int × Bool := if l.length ≤ 64 ∧ allW l l.length = true then ((l.length : Int), plist (lensL l) 6 l.length, flat l l.length 0, true) else (0, ([] : List Int), ([] : List Int), false)
theorem i_lets (l : List ByteArray) (m : Nat) (hm : m < l.length) (h64 : l.length ≤ 64) (ho : wOk (wd l m) = true) (k : Nat) (hk : 5 < k) : ∀ (d p : Nat), (wd l m).size = p + d → impl_planesOf.lets k (wd l m) (m : Int) d p (flat l m (5 * p)) = some (flat l (m + 1) 0) := by
  have hw := wOk_sz _ ho
  intro d
  induction d with
  | zero =>
    intro p hp
    rw [impl_planesOf.lets, flat_end l m hm p (by omega)]
  | succ d ih =>
    intro p hp
    rw [impl_planesOf.lets, if_pos (by rw [flat_len]; omega), flat_sub l m p (by omega)]
    have hr := hw.2 p (by omega)
    have e : wrap64 (wrap64 (IntKind.u8.wrap (bt (wd l m) (p : Int) - 97)) + 1) = (((code (wd l m) p).toNat : Nat) : Int) := by
      have hc : code (wd l m) p = bt (wd l m) (p : Int) - 96 := if_pos (by omega)
      rw [hc, IntKind.wrap_u8]
      generalize bt (wd l m) (p : Int) = z at hr
      unfold wrap64
      omega
    have hc := code_range _ ho p
    rw [e, lane_eq (codes l p) 5 (by omega) m (by omega) _ (by omega) (codes_pl l p m hm) k hk]
    rw [Option.bind_some, flat_put l m p (by omega)]
    exact ih (p + 1) (by omega)
theorem i_l (l : List ByteArray) (h64 : l.length ≤ 64) (hsz : ∀ j, j < l.length → (wd l j).size ≤ 1048576) (k : Nat) (hk : 1048576 < k) : ∀ (d m : Nat), l.length - m = d → m ≤ l.length → allW l m = true → impl_planesOf.l k (l.drop m) m (plist (lensL l) 6 m) (flat l m 0) = some (if allW l l.length = true then (true, plist (lensL l) 6 l.length, flat l l.length 0) else (false, ([] : List Int), ([] : List Int))) := by
  intro d
  induction d with
  | zero =>
    intro m hd hm ho
    have e : m = l.length := by omega
    subst e
    rw [List.drop_eq_nil_of_le (Nat.le_refl _), impl_planesOf.l, if_pos ho]
  | succ d ih =>
    intro m hd hm ho
    have hlt : m < l.length := by omega
    rw [List.drop_eq_getElem_cons hlt, ← wd_get l m hlt, impl_planesOf.l]
    have et : (if (wd l m).toList = ([] : List UInt8) then some true else impl_isWord.f k (wd l m)) = some (wOk (wd l m)) := by
      unfold wOk
      split
      · rfl
      · exact isWord_eq _ (hsz m hlt) k (by have := hsz m hlt; omega)
    rw [et, Option.bind_some]
    by_cases c : wOk (wd l m) = true
    · rw [if_pos c]
      have hs := (wOk_sz _ c).1
      rw [lane_eq (lensL l) 6 (by omega) m (by omega) (wd l m).size (by omega) (lens_pl l m hlt) k (by omega), Option.bind_some]
      have := i_lets l m hlt h64 c k (by omega) (wd l m).size 0 (by omega)
      rw [Nat.mul_zero] at this
      rw [this, Option.bind_some]
      refine ih (m + 1) (by omega) (by omega) ?_
      unfold allW
      rw [ho, c]; rfl
    · rw [if_neg c]
      have c2 : wOk (wd l m) = false := by simpa using c
      rw [allW_no l m c2 l.length hlt]
      simp
theorem iPlanes0 (l : List ByteArray) (hsz : ∀ j, j < l.length → (wd l j).size ≤ 1048576) (k : Nat) (hk : 1048576 < k) : impl_planesOf.f k l = some (planT l) := by
  unfold impl_planesOf.f planT
  by_cases c : (l.length : Int) > 64
  · rw [if_pos c, if_neg (fun h => by omega)]
  · rw [if_neg c]
    have h := i_l l (by omega) hsz k hk l.length 0 (by omega) (by omega) rfl
    rw [plist0, flat_zero, List.drop_zero] at h
    rw [h, Option.bind_some]
    by_cases c2 : allW l l.length = true
    · have hT : (if l.length ≤ 64 ∧ allW l l.length = true then ((l.length : Int), plist (lensL l) 6 l.length, flat l l.length 0, true) else (0, ([] : List Int), ([] : List Int), false)) = ((l.length : Int), plist (lensL l) 6 l.length, flat l l.length 0, true) := if_pos ⟨by omega, c2⟩
      rw [if_pos c2, hT]
      exact if_pos rfl
    · have hT : (if l.length ≤ 64 ∧ allW l l.length = true then ((l.length : Int), plist (lensL l) 6 l.length, flat l l.length 0, true) else (0, ([] : List Int), ([] : List Int), false)) = (0, ([] : List Int), ([] : List Int), false) := if_neg (fun h => c2 h.2)
      rw [if_neg c2, hT]
      exact if_neg (by simp)
theorem lens_take (l : List ByteArray) (m : Nat) (h : m < l.length) : (lensL l).take m ++ [((wd l m).size : Int)] = (lensL l).take (m + 1) := by
  rw [wd_get l m h, List.take_add_one]
  simp [lensL, h]
theorem codes_take (l : List ByteArray) (p m : Nat) (h : m < l.length) : (codes l p).take m ++ [code (wd l m) p] = (codes l p).take (m + 1) := by
  rw [wd_get l m h, List.take_add_one]
  simp [codes, h]
theorem s_l2 (l : List ByteArray) (h64 : l.length ≤ 64) (ha : allW l l.length = true) (p : Nat) (hp : p < 32) (n : Int) (t : List Int) (R : Int × List Int × List Int × Bool) (hn : Ev fun k => spec_PlanesOf.l1 k l ((p + 1 : Nat) : Int) n t ((flat l l.length 0).take (5 * (p + 1))) = some R) : ∀ (d m : Nat), l.length - m = d → m ≤ l.length → Ev fun k => spec_PlanesOf.l2 k l (p : Int) ((codes l p).take m) (m : Int) n t ((flat l l.length 0).take (5 * p)) = some R := by
  intro d
  induction d with
  | zero =>
    intro m hd hm
    have e : m = l.length := by omega
    subst e
    have hpu := put_eq (codes l p) (codes_u l ha p) (by rw [codes_len]; exact h64) 5 (by omega)
    rw [codes_len] at hpu
    refine (hn.and hpu).up fun k hk => ?_
    obtain ⟨hk, hk2⟩ := hk
    simp only [spec_PlanesOf.l2]
    rw [if_neg (by omega), List.take_of_length_le (by rw [codes_len]; omega)]
    rw [show spec_l07Put.f k (codes l p) 5 = some (plist (codes l p) 5 l.length) from hk2, Option.bind_some, if_pos (by rw [List.length_take, plist_len]; omega), flat_take l l.length p hp, w_inc p (by omega)]
    exact hk
  | succ d ih =>
    intro m hd hm
    have hlt : m < l.length := by omega
    refine (ih (m + 1) (by omega) (by omega)).up fun k hk => ?_
    have hl : ((codes l p).take m).length < 17592186044416 := by rw [List.length_take, codes_len]; omega
    have hw := wOk_sz _ (allW_at l l.length ha m hlt)
    simp only [spec_PlanesOf.l2]
    rw [if_pos (by omega), if_pos (by omega)]
    rw [show rdOf ByteArray.empty l (m : Int) = wd l m from rfl]
    rw [← codes_take l p m hlt] at hk
    by_cases c : p < (wd l m).size
    · have hr := hw.2 p c
      have hc : code (wd l m) p = bt (wd l m) (p : Int) - 96 := if_pos c
      rw [hc] at hk
      rw [if_pos (by omega), if_pos (by omega), if_pos hl, w_inc m (by omega)]
      have e : wrap64 (wrap64 (bt (wd l m) (p : Int)) - 96) = bt (wd l m) (p : Int) - 96 := by
        generalize bt (wd l m) (p : Int) = z at hr
        unfold wrap64
        omega
      rw [e]
      exact hk
    · have hc : code (wd l m) p = 0 := if_neg c
      rw [hc] at hk
      rw [if_neg (by omega), if_pos hl, w_inc m (by omega)]
      exact hk
theorem s_l1 (l : List ByteArray) (h64 : l.length ≤ 64) (ha : allW l l.length = true) (n : Int) (t : List Int) : ∀ (d p : Nat), 32 - p = d → p ≤ 32 → Ev fun k => spec_PlanesOf.l1 k l (p : Int) n t ((flat l l.length 0).take (5 * p)) = some (n, t, flat l l.length 0, true) := by
  intro d
  induction d with
  | zero =>
    intro p hd hp
    have e : p = 32 := by omega
    subst e
    refine Ev.from 1 fun k hk => ?_
    obtain ⟨k, rfl⟩ : ∃ m, k = m + 1 := ⟨k - 1, by omega⟩
    simp only [spec_PlanesOf.l1]
    rw [if_neg (by omega), List.take_of_length_le (by rw [flat_len]; omega)]
  | succ d ih =>
    intro p hd hp
    have h2 := s_l2 l h64 ha p (by omega) n t _ (ih (p + 1) (by omega) (by omega)) l.length 0 (by omega) (by omega)
    refine h2.up fun k hk => ?_
    simp only [spec_PlanesOf.l1]
    rw [if_pos (by omega)]
    exact hk
theorem s_pl0 (l : List ByteArray) (h64 : l.length ≤ 64) (hsz : ∀ j, j < l.length → (wd l j).size ≤ 1048576) : ∀ (d m : Nat), l.length - m = d → m ≤ l.length → allW l m = true → Ev fun k => spec_PlanesOf.l0 k l ((lensL l).take m) (m : Int) = some (planT l) := by
  intro d
  induction d with
  | zero =>
    intro m hd hm ho
    have e : m = l.length := by omega
    subst e
    have hpu := put_eq (lensL l) (lens_u l ho) (by rw [lens_len]; exact h64) 6 (by omega)
    rw [lens_len] at hpu
    have h1 := s_l1 l h64 ho (l.length : Int) (plist (lensL l) 6 l.length) 32 0 (by omega) (by omega)
    refine (h1.and hpu).up fun k hk => ?_
    obtain ⟨hk, hk2⟩ := hk
    simp only [spec_PlanesOf.l0]
    rw [if_neg (by omega), List.take_of_length_le (by rw [lens_len]; omega)]
    rw [show spec_l07Put.f k (lensL l) 6 = some (plist (lensL l) 6 l.length) from hk2, Option.bind_some]
    unfold planT
    rw [if_pos ⟨h64, ho⟩]
    exact hk
  | succ d ih =>
    intro m hd hm ho
    have hlt : m < l.length := by omega
    have hl : ((lensL l).take m).length < 17592186044416 := by rw [List.length_take, lens_len]; omega
    by_cases c : wOk (wd l m) = true
    · have ho2 : allW l (m + 1) = true := by
        unfold allW
        rw [ho, c]; rfl
      refine ((ih (m + 1) (by omega) (by omega) ho2).and (Ev.from (P := fun k => 1048577 < k) 1048578 fun k hk => hk)).up fun k hk => ?_
      obtain ⟨hk, hk2⟩ := hk
      rw [← lens_take l m hlt] at hk
      simp only [spec_PlanesOf.l0]
      rw [if_pos (by omega), if_pos (by omega)]
      rw [show rdOf ByteArray.empty l (m : Int) = wd l m from rfl, w_inc m (by omega)]
      by_cases c2 : (wd l m).toList = ([] : List UInt8)
      · rw [if_pos c2, if_pos hl]
        exact hk
      · have hb : wordB (wd l m) = true := by
          unfold wOk at c
          rwa [if_neg c2] at c
        rw [if_neg c2, wordOk_eq _ (hsz m hlt) k (by have := hsz m hlt; omega), hb, Option.bind_some, if_pos rfl, if_pos hl]
        exact hk
    · have c3 : wOk (wd l m) = false := by simpa using c
      refine Ev.from 1048580 fun k hk => ?_
      obtain ⟨k, rfl⟩ : ∃ m, k = m + 1 := ⟨k - 1, by omega⟩
      simp only [spec_PlanesOf.l0]
      rw [if_pos (by omega), if_pos (by omega)]
      rw [show rdOf ByteArray.empty l (m : Int) = wd l m from rfl]
      have c2 : ¬ (wd l m).toList = ([] : List UInt8) := by
        intro h
        unfold wOk at c
        rw [if_pos h] at c
        exact c rfl
      have hb : wordB (wd l m) = false := by
        unfold wOk at c3
        rwa [if_neg c2] at c3
      rw [if_neg c2, wordOk_eq _ (hsz m hlt) k (by have := hsz m hlt; omega), hb, Option.bind_some, if_neg (by simp)]
      unfold planT
      rw [if_neg (fun h => by have := allW_no l m c3 l.length hlt; rw [this] at h; exact absurd h.2 (by simp))]
theorem sPlanes (l : List ByteArray) (hsz : ∀ j, j < l.length → (wd l j).size ≤ 1048576) : Ev fun k => spec_PlanesOf.f k l = some (planT l) := by
  by_cases c : (l.length : Int) > 64
  · refine Ev.from 0 fun k hk => ?_
    unfold spec_PlanesOf.f planT
    rw [if_pos c, if_neg (fun h => by omega)]
  · refine (s_pl0 l (by omega) hsz l.length 0 (by omega) (by omega) rfl).imp fun k hk => ?_
    unfold spec_PlanesOf.f
    rw [if_neg c]
    exact hk
/-- What a valid word's bytes are, by its codes. -/
def wby (b : ByteArray) (n : Nat) : List Int := (List.range n).map fun (p : Nat) => ((96 + (code b p).toNat : Nat) : Int)
theorem wby_str (b : ByteArray) (h : wOk b = true) : strOfNums (wby b b.size) = b := by
  have hw := wOk_sz b h
  have e : wby b b.size = bytesOf b := by
    apply List.ext_getElem
    · simp [wby, bytesOf]
    · intro i h1 h2
      have hi : i < b.size := by simpa [wby] using h1
      have hr := hw.2 i hi
      have hc : code b i = bt b (i : Int) - 96 := if_pos hi
      have e1 : (wby b b.size)[i] = bt b (i : Int) := by
        simp only [wby, List.getElem_map, List.getElem_range, hc]
        omega
      rw [e1, bytes_at b i hi h2]
  rw [e, str_bytes]
def sub (B : List Int) (p : Nat) : List Int := (B.take (5 * p + 5)).drop (5 * p)
theorem sub_len (B : List Int) (hB : B.length = 160) (p : Nat) (hp : p < 32) : (sub B p).length = 5 := by
  unfold sub
  rw [List.length_drop, List.length_take]; omega
theorem sub_u (B : List Int) (hu : Uu B) (p : Nat) : Uu (sub B p) := fun x hx => hu x (List.mem_of_mem_take (List.mem_of_mem_drop hx))
def cdB (B : List Int) (j p : Nat) : Nat := valTo (sub B p) j 5
theorem cdB_lt (B : List Int) (j p : Nat) : cdB B j p < 32 := valTo_lt _ _ 5
def swL (B : List Int) (j : Nat) : Nat → List Int
  | 0 => []
  | p + 1 => swL B j p ++ (if 0 < cdB B j p then [((96 + cdB B j p : Nat) : Int)] else [])
theorem swL_len (B : List Int) (j : Nat) : ∀ p, (swL B j p).length ≤ p
  | 0 => by simp [swL]
  | p + 1 => by
    have := swL_len B j p
    unfold swL
    rw [List.length_append]
    split <;> simp <;> omega
def specW (B : List Int) (n : Nat) : List ByteArray := (List.range n).map fun i => strOfNums (swL B i 32)
def implW (A B : List Int) (n : Nat) : List ByteArray := (List.range n).map fun i => strOfNums ((List.range (valTo A i 6)).map fun (p : Nat) => ((96 + cdB B i p : Nat) : Int))
theorem specW_len (B : List Int) (n : Nat) : (specW B n).length = n := by simp [specW]
theorem implW_len (A B : List Int) (n : Nat) : (implW A B n).length = n := by simp [implW]
theorem specW_sz (B : List Int) (n : Nat) : ∀ j, j < (specW B n).length → (wd (specW B n) j).size ≤ 1048576 := by
  intro j hj
  rw [wd_get _ j hj]
  simp only [specW, List.getElem_map, List.getElem_range]
  rw [strOfNums_size]
  have := swL_len B j 32
  omega
theorem implW_sz (A B : List Int) (n : Nat) : ∀ j, j < (implW A B n).length → (wd (implW A B n) j).size ≤ 1048576 := by
  intro j hj
  rw [wd_get _ j hj]
  simp only [implW, List.getElem_map, List.getElem_range]
  rw [strOfNums_size, List.length_map, List.length_range]
  have := valTo_lt A j 6
  omega
/-- Planes that are those of valid words. -/
theorem plan_ok (U : List ByteArray) (n : Int) (A B : List Int) (h : planT U = (n, A, B, true)) : n = (U.length : Int) ∧ A = plist (lensL U) 6 U.length ∧ B = flat U U.length 0 ∧ U.length ≤ 64 ∧ allW U U.length = true := by
  unfold planT at h
  by_cases c : U.length ≤ 64 ∧ allW U U.length = true
  · rw [if_pos c] at h
    simp only [Prod.mk.injEq] at h
    exact ⟨h.1.symm, h.2.1.symm, h.2.2.1.symm, c.1, c.2⟩
  · rw [if_neg c] at h
    simp at h
theorem sub_flat (U : List ByteArray) (m p : Nat) (hp : p < 32) : sub (flat U m 0) p = plist (codes U p) 5 m := by
  unfold sub
  apply List.ext_getElem
  · rw [List.length_drop, List.length_take, flat_len, plist_len]; omega
  · intro i h1 h2
    have hi : i < 5 := by simpa [plist] using h2
    rw [List.getElem_drop, List.getElem_take, flat_get, plist_get]
    unfold flF
    rw [show (5 * p + i) / 5 = p from by omega, show (5 * p + i) % 5 = i from by omega, if_neg (by omega)]
theorem cd_flat (U : List ByteArray) (ha : allW U U.length = true) (j p : Nat) (hj : j < U.length) (hp : p < 32) : cdB (flat U U.length 0) j p = (code (wd U j) p).toNat := by
  unfold cdB
  have hr := code_range _ (allW_at U U.length ha j hj) p
  rw [sub_flat U U.length p hp]
  have h := val_plist (codes U p) 5 j (by rw [codes_pl U p j hj]; omega)
  rw [codes_len] at h
  rw [h, codes_pl U p j hj]
theorem len_flat (U : List ByteArray) (ha : allW U U.length = true) (j : Nat) (hj : j < U.length) : valTo (plist (lensL U) 6 U.length) j 6 = (wd U j).size := by
  have hw := wOk_sz _ (allW_at U U.length ha j hj)
  have h := val_plist (lensL U) 6 j (by rw [lens_pl U j hj]; omega)
  rw [lens_len] at h
  rw [h, lens_pl U j hj]
theorem swL_flat (U : List ByteArray) (ha : allW U U.length = true) (j : Nat) (hj : j < U.length) : ∀ p, p ≤ 32 → swL (flat U U.length 0) j p = wby (wd U j) (min p (wd U j).size)
  | 0, _ => by simp [swL, wby]
  | p + 1, hp => by
    have hw := wOk_sz _ (allW_at U U.length ha j hj)
    rw [swL, swL_flat U ha j hj p (by omega), cd_flat U ha j p hj (by omega)]
    by_cases c : p < (wd U j).size
    · have hr := hw.2 p c
      have hc : code (wd U j) p = bt (wd U j) (p : Int) - 96 := if_pos c
      rw [if_pos (by rw [hc]; omega), show min p (wd U j).size = p from by omega, show min (p + 1) (wd U j).size = p + 1 from by omega]
      unfold wby
      rw [List.range_succ, List.map_append]; rfl
    · have hc : code (wd U j) p = 0 := if_neg c
      rw [hc, if_neg (by decide), List.append_nil, show min p (wd U j).size = (wd U j).size from by omega, show min (p + 1) (wd U j).size = (wd U j).size from by omega]
theorem rec_s (U : List ByteArray) (ha : allW U U.length = true) : specW (flat U U.length 0) U.length = U := by
  apply List.ext_getElem
  · rw [specW_len]
  · intro j h1 h2
    have ho := allW_at U U.length ha j h2
    have hw := wOk_sz _ ho
    simp only [specW, List.getElem_map, List.getElem_range]
    rw [swL_flat U ha j h2 32 (Nat.le_refl _), show min 32 (wd U j).size = (wd U j).size from by omega, wby_str _ ho, wd_get U j h2]
theorem rec_i (U : List ByteArray) (ha : allW U U.length = true) : implW (plist (lensL U) 6 U.length) (flat U U.length 0) U.length = U := by
  apply List.ext_getElem
  · rw [implW_len]
  · intro j h1 h2
    have ho := allW_at U U.length ha j h2
    have hw := wOk_sz _ ho
    simp only [implW, List.getElem_map, List.getElem_range]
    rw [len_flat U ha j h2]
    have e : ((List.range (wd U j).size).map fun (p : Nat) => ((96 + cdB (flat U U.length 0) j p : Nat) : Int)) = wby (wd U j) (wd U j).size := by
      unfold wby
      apply List.map_congr_left
      intro p hp
      have : p < (wd U j).size := List.mem_range.1 hp
      rw [cd_flat U ha j p h2 (by omega)]
    rw [e, wby_str _ ho, wd_get U j h2]
/-- All lanes' lengths are those of words. -/
def lenOk (A : List Int) : Nat → Bool
  | 0 => true
  | j + 1 => lenOk A j && decide (valTo A j 6 ≤ 32)
theorem lenOk_flat (U : List ByteArray) (ha : allW U U.length = true) : ∀ j, j ≤ U.length → lenOk (plist (lensL U) 6 U.length) j = true
  | 0, _ => rfl
  | j + 1, hj => by
    unfold lenOk
    rw [lenOk_flat U ha j (by omega), len_flat U ha j (by omega), decide_eq_true (wOk_sz _ (allW_at U U.length ha j (by omega))).1]; rfl
/-- Both readings say the same. -/
theorem read_same (A B : List Int) (n : Nat) : (planT (specW B n) = ((n : Int), A, B, true)) ↔ (lenOk A n = true ∧ planT (implW A B n) = ((n : Int), A, B, true)) := by
  constructor
  · intro h
    obtain ⟨hn, hA, hB, h64, ha⟩ := plan_ok _ _ _ _ h
    rw [specW_len] at hA hB
    have hl : (specW B n).length = n := specW_len B n
    generalize specW B n = U at *
    subst hl
    subst hA
    subst hB
    rw [rec_i U ha]
    exact ⟨lenOk_flat U ha _ (Nat.le_refl _), h⟩
  · rintro ⟨_, h⟩
    obtain ⟨hn, hA, hB, h64, ha⟩ := plan_ok _ _ _ _ h
    have hl : (implW A B n).length = n := implW_len A B n
    have hk := h
    generalize implW A B n = U at *
    subst hl
    subst hA
    subst hB
    rw [rec_s U ha]
    exact h
theorem words_same (A B : List Int) (n : Nat) (h : planT (specW B n) = ((n : Int), A, B, true)) : implW A B n = specW B n := by
  obtain ⟨hn, hA, hB, h64, ha⟩ := plan_ok _ _ _ _ h
  rw [specW_len] at hA hB
  have hl : (specW B n).length = n := specW_len B n
  generalize specW B n = U at *
  subst hl
  subst hA
  subst hB
  exact rec_i U ha
theorem w_code (c : Nat) (h : c < 32) : wrap64 (96 + (c : Int)) % 256 = ((96 + c : Nat) : Int) := by unfold wrap64; omega
def cmpL (b : Bool) (X Y : List Int) : Nat → Bool
  | 0 => b
  | i + 1 => cmpL b X Y i && (rd X (i : Int) == rd Y (i : Int))
theorem cmpL_iff (b : Bool) (X Y : List Int) (n : Nat) (hX : X.length = n) (hY : Y.length = n) : cmpL b X Y n = true ↔ b = true ∧ X = Y := by
  have h : ∀ m, cmpL b X Y m = true ↔ b = true ∧ ∀ i, i < m → rd X (i : Int) = rd Y (i : Int) := by
    intro m
    induction m with
    | zero => simp [cmpL]
    | succ m ih =>
      rw [cmpL, Bool.and_eq_true, ih, beq_iff_eq]
      constructor
      · rintro ⟨⟨h1, h2⟩, h3⟩
        refine ⟨h1, fun i hi => ?_⟩
        by_cases e : i = m
        · subst e; exact h3
        · exact h2 i (by omega)
      · rintro ⟨h1, h2⟩
        exact ⟨⟨h1, fun i hi => h2 i (by omega)⟩, h2 m (by omega)⟩
  rw [h n]
  constructor
  · rintro ⟨h1, h2⟩
    refine ⟨h1, ?_⟩
    apply List.ext_getElem (by omega)
    intro i h3 h4
    have := h2 i (by omega)
    simpa [rd, h3, h4] using this
  · rintro ⟨h1, rfl⟩
    exact ⟨h1, fun _ _ => rfl⟩
/-- Are these planes the planes of the words that they hold? -/
def okP (n : Int) (A B : List Int) : Bool := decide (0 ≤ n ∧ n ≤ 64 ∧ A.length = 6 ∧ B.length = 160 ∧ planT (specW B n.toNat) = (n, A, B, true))
theorem planT_cases (l : List ByteArray) (hl : l.length ≤ 64) : (planT l = (0, ([] : List Int), ([] : List Int), false)) ∨ (planT l = ((l.length : Int), plist (lensL l) 6 l.length, flat l l.length 0, true)) := by
  unfold planT
  by_cases c : l.length ≤ 64 ∧ allW l l.length = true
  · rw [if_pos c]; exact .inr rfl
  · rw [if_neg c]; exact .inl rfl
theorem Equal_l0 (X Y : List Int) (n : Nat) (hX : X.length = n) (hY : Y.length = n) (hn : n ≤ 1048576) : ∀ (d k i : Nat), n - i = d → i ≤ n → d < k → cmpL true X Y i = true → slices_Equal_uint64_uint64.l0 k X Y (n : Int) (i : Int) = some (cmpL true X Y n) := by
  intro d
  induction d with
  | zero =>
    intro k i hd hi hk hc
    obtain ⟨k, rfl⟩ : ∃ m, k = m + 1 := ⟨k - 1, by omega⟩
    have e : i = n := by omega
    subst e
    simp only [slices_Equal_uint64_uint64.l0]
    rw [if_neg (by omega), hc]
  | succ d ih =>
    intro k i hd hi hk hc
    obtain ⟨k, rfl⟩ : ∃ m, k = m + 1 := ⟨k - 1, by omega⟩
    simp only [slices_Equal_uint64_uint64.l0]
    rw [if_pos (by omega), if_pos (by omega), if_pos (by omega), if_pos (by omega), w_inc i (by omega)]
    by_cases c : rd X (i : Int) = rd Y (i : Int)
    · rw [if_pos c]
      refine ih k (i + 1) (by omega) (by omega) (by omega) ?_
      rw [cmpL, hc, beq_iff_eq.2 c]; rfl
    · rw [if_neg c]
      refine congrArg some ?_
      symm
      cases h : cmpL true X Y n with
      | false => rfl
      | true =>
        have := (cmpL_iff true X Y n hX hY).1 h
        rw [this.2] at c
        exact absurd rfl c
theorem Equal_eq (X Y : List Int) (n : Nat) (hX : X.length = n) (hY : Y.length = n) (hn : n ≤ 1048576) (k : Nat) (hk : n < k) : slices_Equal_uint64_uint64.f k X Y = some (decide (X = Y)) := by
  unfold slices_Equal_uint64_uint64.f
  rw [if_pos (by omega), hX]
  have := Equal_l0 X Y n hX hY hn n k 0 (by omega) (by omega) hk rfl
  refine this.trans (congrArg some ?_)
  rw [Bool.eq_iff_iff, cmpL_iff true X Y n hX hY, decide_eq_true_iff]
  exact ⟨fun h => h.2, fun h => ⟨rfl, h⟩⟩
def resI (A B : List Int) (N : Nat) : List ByteArray × Bool := if lenOk A N = true ∧ planT (implW A B N) = ((N : Int), A, B, true) then (implW A B N, true) else (([] : List ByteArray), false)
def iby (A B : List Int) (j : Nat) : List Int := (List.range (valTo A j 6)).map fun (p : Nat) => ((96 + cdB B j p : Nat) : Int)
theorem iby_len (A B : List Int) (j : Nat) : (iby A B j).length = valTo A j 6 := by simp [iby]
theorem iw_l1 (A B : List Int) (hB : B.length = 160) (hu : Uu B) (N j : Nat) (hj : j < N) (hN : N ≤ 64) (h32 : valTo A j 6 ≤ 32) (x : List ByteArray) (hx : x.length = N) (R : List ByteArray × Bool) (hn : Ev fun k => impl_planesWords.l0 k (x.set j (strOfNums (iby A B j))) (N : Int) ((j + 1 : Nat) : Int) (N : Int) A B = some R) : ∀ (d p : Nat) (y : List Int), valTo A j 6 - p = d → p ≤ valTo A j 6 → y.length = valTo A j 6 → y.take p = (iby A B j).take p → Ev fun k => impl_planesWords.l1 k x (j : Int) y (N : Int) (j : Int) ((valTo A j 6 : Nat) : Int) (p : Int) (N : Int) A B = some R := by
  intro d
  induction d with
  | zero =>
    intro p y hd hp hy ht
    have e : p = valTo A j 6 := by omega
    rw [List.take_of_length_le (by omega), List.take_of_length_le (by rw [iby_len]; omega)] at ht
    rw [ht]
    refine hn.up fun k hk => ?_
    simp only [impl_planesWords.l1]
    rw [if_neg (by omega), if_pos (by omega), if_pos (by omega), Int.toNat_natCast, w_inc j (by omega)]
    exact hk
  | succ d ih =>
    intro p y hd hp hy ht
    have hp32 : p < 32 := by omega
    have ht2 : (y.set p ((96 + cdB B j p : Nat) : Int)).take (p + 1) = (iby A B j).take (p + 1) := by
      rw [List.take_add_one, List.take_add_one, List.take_set_of_le (Nat.le_refl _), ht]
      have h1 : p < y.length := by omega
      have h2 : p < (iby A B j).length := by rw [iby_len]; omega
      have e : (iby A B j)[p] = ((96 + cdB B j p : Nat) : Int) := by simp [iby]
      rw [List.getElem?_set_self h1, List.getElem?_eq_getElem h2, e]
    refine ((ih (p + 1) (y.set p ((96 + cdB B j p : Nat) : Int)) (by omega) (by omega) (by rw [List.length_set]; exact hy) ht2).and (Ev.from (P := fun k => 10 < k) 11 fun k hk => hk)).up fun k hk => ?_
    obtain ⟨hk, hk2⟩ := hk
    have e5 : wrap64 (5 * (p : Int)) = ((5 * p : Nat) : Int) := by unfold wrap64; omega
    have e6 : wrap64 (((5 * p : Nat) : Int) + 5) = ((5 * p + 5 : Nat) : Int) := by unfold wrap64; omega
    simp only [impl_planesWords.l1]
    rw [if_pos (by omega), e5, e6, if_pos (by omega), if_pos (by omega), if_pos (by omega), Int.toNat_natCast, Int.toNat_natCast]
    rw [show (B.take (5 * p + 5)).drop (5 * p) = sub B p from rfl, laneOf_eq (sub B p) (sub_u B hu p) (by rw [sub_len B hB p hp32]; omega) j (by omega) k (by rw [sub_len B hB p hp32]; omega), sub_len B hB p hp32, Option.bind_some]
    rw [show valTo (sub B p) j 5 = cdB B j p from rfl, w_inc p (by omega), if_pos (by omega), if_pos (by omega), Int.toNat_natCast, w_code _ (cdB_lt B j p)]
    exact hk
theorem resI_no (A B : List Int) (N : Nat) (h : ¬ (lenOk A N = true ∧ planT (implW A B N) = ((N : Int), A, B, true))) : resI A B N = (([] : List ByteArray), false) := if_neg h
theorem lenOk_no (A : List Int) (j : Nat) (h : ¬ valTo A j 6 ≤ 32) : ∀ n, j < n → lenOk A n = false
  | 0, hn => by omega
  | n + 1, hn => by
    unfold lenOk
    by_cases e : j = n
    · subst e; rw [decide_eq_false h, Bool.and_false]
    · rw [lenOk_no A j h n (by omega), Bool.false_and]
theorem iw_l0 (A B : List Int) (hA : A.length = 6) (hB : B.length = 160) (hua : Uu A) (hu : Uu B) (N : Nat) (hN : N ≤ 64) : ∀ (d j : Nat) (x : List ByteArray), N - j = d → j ≤ N → x.length = N → x.take j = (implW A B N).take j → lenOk A j = true → Ev fun k => impl_planesWords.l0 k x (N : Int) (j : Int) (N : Int) A B = some (resI A B N) := by
  intro d
  induction d with
  | zero =>
    intro j x hd hj hx ht ho
    have e : j = N := by omega
    subst e
    rw [List.take_of_length_le (by omega), List.take_of_length_le (by rw [implW_len]; omega)] at ht
    subst ht
    have hP : Ev fun k => impl_planesOf.f k (implW A B j) = some (planT (implW A B j)) := Ev.from 1048577 fun k hk => iPlanes0 _ (implW_sz A B j) k (by omega)
    refine (hP.and (Ev.from (P := fun k => 1000 < k) 1001 fun k hk => hk)).up fun k hk => ?_
    obtain ⟨hk, hk2⟩ := hk
    simp only [impl_planesWords.l0]
    rw [if_neg (by omega), hk, Option.bind_some]
    rcases planT_cases (implW A B j) (by rw [implW_len]; omega) with hT | hT
    · rw [resI_no A B j (fun h => by rw [hT] at h; simp at h), hT]
      exact if_neg (by simp)
    · rw [hT]
      refine (if_pos rfl).trans ?_
      have h6 := Equal_eq (plist (lensL (implW A B j)) 6 (implW A B j).length) A 6 (plist_len _ _ _) hA (by omega) k (by omega)
      have h160 := Equal_eq (flat (implW A B j) (implW A B j).length 0) B 160 (flat_len _ _ _) hB (by omega) k (by omega)
      refine (congrArg (fun o => Option.bind o _) h6).trans ?_
      rw [Option.bind_some]
      by_cases c1 : plist (lensL (implW A B j)) 6 (implW A B j).length = A
      · rw [if_pos (decide_eq_true c1)]
        refine (congrArg (fun o => Option.bind o _) h160).trans ?_
        rw [Option.bind_some]
        by_cases c2 : flat (implW A B j) (implW A B j).length 0 = B
        · rw [if_pos (decide_eq_true c2)]
          unfold resI
          rw [if_pos ⟨ho, by rw [hT, c1, c2, implW_len]⟩]
        · rw [if_neg (by rw [decide_eq_false c2]; simp), resI_no A B j (fun h => by
            have := h.2
            rw [hT] at this
            simp only [Prod.mk.injEq] at this
            exact c2 this.2.2.1)]
      · rw [if_neg (by rw [decide_eq_false c1]; simp), resI_no A B j (fun h => by
          have := h.2
          rw [hT] at this
          simp only [Prod.mk.injEq] at this
          exact c1 this.2.1)]
  | succ d ih =>
    intro j x hd hj hx ht ho
    have hlt : j < N := by omega
    have hla : Ev fun k => impl_laneOf.f k A (j : Int) = some ((valTo A j 6 : Nat) : Int) := Ev.from 10 fun k hk => by
      have := laneOf_eq A hua (by omega) j (by omega) k (by omega)
      rwa [hA] at this
    have h64 := valTo_lt A j 6
    by_cases c : valTo A j 6 ≤ 32
    · have ht2 : (x.set j (strOfNums (iby A B j))).take (j + 1) = (implW A B N).take (j + 1) := by
        rw [List.take_add_one, List.take_add_one, List.take_set_of_le (Nat.le_refl _), ht]
        have h1 : j < x.length := by omega
        simp [h1, implW, hlt, iby]
      have hn := ih (j + 1) (x.set j (strOfNums (iby A B j))) (by omega) (by omega) (by rw [List.length_set]; exact hx) ht2 (by unfold lenOk; rw [ho, decide_eq_true c]; rfl)
      have h1 := iw_l1 A B hB hu N j hlt hN c x hx _ hn (valTo A j 6) 0 (List.replicate (valTo A j 6) 0) (by omega) (by omega) (by simp) (by simp)
      refine (hla.and h1).up fun k hk => ?_
      simp only [impl_planesWords.l0]
      rw [if_pos (by omega), hk.1, Option.bind_some, if_neg (by omega), if_pos (by omega), if_pos (by omega), Option.bind_some, Int.toNat_natCast, List.length_replicate]
      exact hk.2
    · refine hla.up fun k hk => ?_
      simp only [impl_planesWords.l0]
      rw [if_pos (by omega), hk, Option.bind_some, if_pos (by omega), resI_no A B N (fun h => by rw [lenOk_no A j c N hlt] at h; simp at h)]
def wordsI (n : Int) (A B : List Int) : List ByteArray × Bool := if okP n A B = true then (specW B n.toNat, true) else (([] : List ByteArray), false)
theorem iWords (n : Int) (A B : List Int) (hua : Uu A) (hu : Uu B) : Ev fun k => impl_planesWords.f k n A B = some (wordsI n A B) := by
  have hj0 : Ev fun k => impl_planesWords.j0 k true n A B = some (([] : List ByteArray), false) := Ev.from 1 fun k hk => by
    obtain ⟨k, rfl⟩ : ∃ m, k = m + 1 := ⟨k - 1, by omega⟩
    simp only [impl_planesWords.j0]
    rw [if_pos trivial]
  by_cases c : 0 ≤ n ∧ n ≤ 64 ∧ A.length = 6 ∧ B.length = 160
  · obtain ⟨c0, c1, c2, c3⟩ := c
    obtain ⟨N, rfl⟩ := Int.eq_ofNat_of_zero_le c0
    have e : wordsI (N : Int) A B = resI A B N := by
      have e1 : okP (N : Int) A B = true ↔ planT (specW B N) = ((N : Int), A, B, true) := by
        unfold okP
        rw [Int.toNat_natCast, decide_eq_true_iff]
        exact ⟨fun h => h.2.2.2.2, fun h => ⟨c0, c1, c2, c3, h⟩⟩
      unfold wordsI
      by_cases d : okP (N : Int) A B = true
      · have d1 := e1.1 d
        rw [if_pos d, Int.toNat_natCast]
        unfold resI
        rw [if_pos ((read_same A B N).1 d1), words_same A B N d1]
      · rw [if_neg d, resI_no A B N (fun h => d (e1.2 ((read_same A B N).2 h)))]
    rw [e]
    have h0 := iw_l0 A B c2 c3 hua hu N (by omega) N 0 (List.replicate N (⟨#[]⟩ : ByteArray)) (by omega) (by omega) (by simp) (by simp) rfl
    refine (show Ev fun k => impl_planesWords.j0 k false (N : Int) A B = some (resI A B N) from h0.up fun k hk => ?_).imp fun k hk => ?_
    · simp only [impl_planesWords.j0]
      rw [if_neg (by simp), if_pos (by omega), if_pos (by omega), Option.bind_some, Int.toNat_natCast, List.length_replicate]
      exact hk
    · unfold impl_planesWords.f impl_within.f
      rw [if_pos (show ((N : Nat) : Int) ≥ 0 by omega), decide_eq_true c1, Option.bind_some, if_pos rfl, if_pos (by omega), show ((B.length : Int) != 160) = false from by simp; omega]
      exact hk
  · have e : wordsI n A B = (([] : List ByteArray), false) := by
      unfold wordsI okP
      rw [if_neg]
      rw [decide_eq_true_iff]
      exact fun h => c ⟨h.1, h.2.1, h.2.2.1, h.2.2.2.1⟩
    rw [e]
    refine hj0.imp fun k hk => ?_
    unfold impl_planesWords.f impl_within.f
    by_cases d1 : n ≥ 0
    · rw [if_pos d1, Option.bind_some]
      by_cases d2 : n ≤ 64
      · rw [decide_eq_true d2, if_pos rfl]
        by_cases d3 : (A.length : Int) = 6
        · rw [if_pos d3, show ((B.length : Int) != 160) = true from by
            simp only [bne_iff_ne, ne_eq]
            intro h
            exact c ⟨by omega, by omega, by omega, by omega⟩, hk]
        · rw [if_neg d3, hk]
      · rw [decide_eq_false d2, if_neg (by simp), hk]
    · rw [if_neg d1, Option.bind_some, if_neg (by simp), hk]
/-- A table of n+1 rows; its rows from i on are of m+1 cells, and no cell is over what is left of both words. -/
def Tab (n m : Nat) (x : List (List Int)) (i : Nat) : Prop := x.length = n + 1 ∧ ∀ a : Nat, i ≤ a → a ≤ n → (rd_L4 x (a : Int)).length = m + 1 ∧ ∀ b : Nat, b ≤ m → 0 ≤ rd (rd_L4 x (a : Int)) (b : Int) ∧ rd (rd_L4 x (a : Int)) (b : Int) ≤ ((n - a + (m - b) : Nat) : Int)
theorem rdL_set (x : List (List Int)) (i : Nat) (hi : i < x.length) (r : List Int) (a : Nat) : rd_L4 (x.set i r) (a : Int) = if a = i then r else rd_L4 x (a : Int) := by
  unfold rd_L4
  rw [Int.toNat_natCast]
  by_cases c : a = i
  · subst c
    rw [if_pos rfl]
    simp [List.getD_eq_getElem?_getD, hi]
  · rw [if_neg c, List.getD_eq_getElem?_getD, List.getD_eq_getElem?_getD, List.getElem?_set_ne (fun h => c h.symm)]
theorem rd_set (r : List Int) (j : Nat) (hj : j < r.length) (v : Int) (b : Nat) : rd (r.set j v) (b : Int) = if b = j then v else rd r (b : Int) := by
  unfold rd
  rw [Int.toNat_natCast]
  by_cases c : b = j
  · subst c
    rw [if_pos rfl]
    simp [List.getD_eq_getElem?_getD, hj]
  · rw [if_neg c]
    simp [List.getD_eq_getElem?_getD, List.getElem?_set_ne (fun h => c h.symm)]
theorem tab_set (n m : Nat) (x : List (List Int)) (i j : Nat) (hi : i ≤ n) (hj : j ≤ m) (h : Tab n m x i) (v : Int) (h0 : 0 ≤ v) (h1 : v ≤ ((n - i + (m - j) : Nat) : Int)) : Tab n m (x.set i ((rd_L4 x (i : Int)).set j v)) i := by
  have hr := h.2 i (Nat.le_refl _) hi
  refine ⟨by rw [List.length_set]; exact h.1, fun a ha1 ha2 => ?_⟩
  rw [rdL_set x i (by have := h.1; omega)]
  by_cases c : a = i
  · subst c
    rw [if_pos rfl]
    refine ⟨by rw [List.length_set]; exact hr.1, fun b hb => ?_⟩
    rw [rd_set _ j (by rw [hr.1]; omega)]
    by_cases e : b = j
    · subst e
      rw [if_pos rfl]
      exact ⟨h0, h1⟩
    · rw [if_neg e]
      exact hr.2 b hb
  · rw [if_neg c]
    exact h.2 a ha1 ha2
theorem tab_row (n m : Nat) (x : List (List Int)) (i : Nat) (hi : i ≤ n) (h : Tab n m x (i + 1)) : Tab n m (x.set i (List.replicate (m + 1) 0)) i := by
  refine ⟨by rw [List.length_set]; exact h.1, fun a ha1 ha2 => ?_⟩
  rw [rdL_set x i (by have := h.1; omega)]
  by_cases c : a = i
  · rw [if_pos c]
    refine ⟨by simp, fun b hb => ?_⟩
    have : rd (List.replicate (m + 1) (0 : Int)) (b : Int) = 0 := by
      unfold rd
      rw [Int.toNat_natCast]
      simp [show b < m + 1 from by omega]
    rw [this]
    omega
  · rw [if_neg c]
    exact h.2 a (by omega) ha2
def Both (n m : Nat) (F G : Nat → Option (List (List Int))) : Prop := ∃ T, Tab n m T 0 ∧ Ev fun k => F k = some T ∧ G k = some T
theorem Both.step {n m : Nat} {F G F' G' : Nat → Option (List (List Int))} (h : Both n m F G) (hF : ∀ k, F' (k + 1) = F k) (hG : ∀ k, G' (k + 1) = G k) : Both n m F' G' := by
  obtain ⟨T, hT, h⟩ := h
  refine ⟨T, hT, h.up fun k hk => ?_⟩
  rw [hF k, hG k]
  exact hk
theorem cell_eq (n m i d : Nat) (u r g : Int) (hi : i < n) (hd : d < m) (hn : n ≤ 32) (hm : m ≤ 32) (hu : 0 ≤ u ∧ u ≤ ((n - (i + 1) + (m - d) : Nat) : Int)) (hr : 0 ≤ r ∧ r ≤ ((n - i + (m - (d + 1)) : Nat) : Int)) (hg : 0 ≤ g ∧ g ≤ ((n - (i + 1) + (m - (d + 1)) : Nat) : Int)) :
    (mn (wrap64 (1 + (mn (mn u r) g))) g = mn (mn g (wrap64 (u + 1))) (wrap64 (r + 1)) ∧ 0 ≤ mn (mn g (wrap64 (u + 1))) (wrap64 (r + 1)) ∧ mn (mn g (wrap64 (u + 1))) (wrap64 (r + 1)) ≤ ((n - i + (m - d) : Nat) : Int)) ∧
    (wrap64 (1 + (mn (mn u r) g)) = mn (mn (wrap64 (g + 1)) (wrap64 (u + 1))) (wrap64 (r + 1)) ∧ 0 ≤ mn (mn (wrap64 (g + 1)) (wrap64 (u + 1))) (wrap64 (r + 1)) ∧ mn (mn (wrap64 (g + 1)) (wrap64 (u + 1))) (wrap64 (r + 1)) ≤ ((n - i + (m - d) : Nat) : Int)) := by
  have e1 : wrap64 (u + 1) = u + 1 := by unfold wrap64; omega
  have e2 : wrap64 (r + 1) = r + 1 := by unfold wrap64; omega
  have e3 : wrap64 (g + 1) = g + 1 := by unfold wrap64; omega
  have e4 : wrap64 (1 + (mn (mn u r) g)) = 1 + (mn (mn u r) g) := by unfold mn wrap64; split <;> split <;> omega
  rw [e1, e2, e3, e4]
  unfold mn
  refine ⟨⟨?_, ?_, ?_⟩, ⟨?_, ?_, ?_⟩⟩ <;> (repeat' split) <;> omega
theorem t_l1 (s t : ByteArray) (n m : Nat) (hn : s.size = n) (hm : t.size = m) (n32 : n ≤ 32) (m32 : m ≤ 32) (i : Nat) (hi : i ≤ n) (hnext : ∀ x, Tab n m x i → Both n m (fun k => spec_l05Table.l0 k s t x ((i : Int) - 1)) (fun k => impl_costs.l0 k s t x ((i : Int) - 1))) : ∀ (d : Nat) (x : List (List Int)), d ≤ m + 1 → Tab n m x i → Both n m (fun k => spec_l05Table.l1 k s t x (i : Int) ((d : Int) - 1)) (fun k => impl_costs.l1 k s t x (i : Int) ((d : Int) - 1)) := by
  have ew : wrap64 ((i : Int) - 1) = (i : Int) - 1 := by unfold wrap64; omega
  intro d
  induction d with
  | zero =>
    intro x hd hx
    refine (hnext x hx).step (fun k => ?_) (fun k => ?_)
    · simp only [spec_l05Table.l1]
      rw [if_neg (by omega), ew]
    · simp only [impl_costs.l1]
      rw [if_neg (by omega), ew]
  | succ d ih =>
    intro x hd hx
    have e7 : ((d + 1 : Nat) : Int) - 1 = (d : Int) := by omega
    have ed : wrap64 ((d : Int) - 1) = (d : Int) - 1 := by unfold wrap64; omega
    rw [e7]
    have hxl := hx.1
    have hrow := hx.2 i (Nat.le_refl _) hi
    have hrl := hrow.1
    by_cases c1 : i = n
    · have hv : wrap64 ((t.size : Int) - (d : Int)) = ((m - d : Nat) : Int) := by unfold wrap64; omega
      refine (ih (x.set i ((rd_L4 x (i : Int)).set d ((m - d : Nat) : Int))) (by omega) (tab_set n m x i d hi (by omega) hx _ (by omega) (by omega))).step (fun k => ?_) (fun k => ?_)
      · simp only [spec_l05Table.l1]
        rw [if_pos (by omega), if_pos (by omega), if_pos (by omega), if_pos (by omega), if_pos (by omega), if_pos (by omega), hv, ed, Int.toNat_natCast, Int.toNat_natCast]
      · simp only [impl_costs.l1]
        rw [if_pos (by omega), if_pos (by omega), if_pos (by omega), if_pos (by omega), if_pos (by omega), if_pos (by omega), hv, ed, Int.toNat_natCast, Int.toNat_natCast]
    · by_cases c2 : d = m
      · have hv : wrap64 ((s.size : Int) - (i : Int)) = ((n - i : Nat) : Int) := by unfold wrap64; omega
        refine (ih (x.set i ((rd_L4 x (i : Int)).set d ((n - i : Nat) : Int))) (by omega) (tab_set n m x i d hi (by omega) hx _ (by omega) (by omega))).step (fun k => ?_) (fun k => ?_)
        · simp only [spec_l05Table.l1]
          rw [if_pos (by omega), if_neg (by omega), if_pos (by omega), if_pos (by omega), if_pos (by omega), if_pos (by omega), if_pos (by omega), hv, ed, Int.toNat_natCast, Int.toNat_natCast]
        · simp only [impl_costs.l1]
          rw [if_pos (by omega), if_neg (by omega), if_pos (by omega), if_pos (by omega), if_pos (by omega), if_pos (by omega), if_pos (by omega), hv, ed, Int.toNat_natCast, Int.toNat_natCast]
      · have hlow := hx.2 (i + 1) (by omega) (by omega)
        have hll := hlow.1
        have hce := cell_eq n m i d (rd (rd_L4 x ((i + 1 : Nat) : Int)) (d : Int)) (rd (rd_L4 x (i : Int)) ((d + 1 : Nat) : Int)) (rd (rd_L4 x ((i + 1 : Nat) : Int)) ((d + 1 : Nat) : Int)) (by omega) (by omega) n32 m32 (hlow.2 d (by omega)) (hrow.2 (d + 1) (by omega)) (hlow.2 (d + 1) (by omega))
        by_cases c3 : bt s (i : Int) = bt t (d : Int)
        · refine (ih _ (by omega) (tab_set n m x i d hi (by omega) hx _ hce.1.2.1 hce.1.2.2)).step (fun k => ?_) (fun k => ?_)
          · simp only [spec_l05Table.l1]
            rw [w_inc i (by omega), w_inc d (by omega)]
            rw [if_pos (by omega), if_neg (by omega), if_neg (by omega)]
            repeat rw [if_pos (by first | exact c3 | omega)]
            rw [hce.1.1, ed, Int.toNat_natCast, Int.toNat_natCast]
          · simp only [impl_costs.l1]
            rw [w_inc i (by omega), w_inc d (by omega)]
            rw [if_pos (by omega), if_neg (by omega), if_neg (by omega)]
            repeat rw [if_pos (by first | exact c3 | omega)]
            rw [ed, Int.toNat_natCast, Int.toNat_natCast]
        · refine (ih _ (by omega) (tab_set n m x i d hi (by omega) hx _ hce.2.2.1 hce.2.2.2)).step (fun k => ?_) (fun k => ?_)
          · simp only [spec_l05Table.l1]
            rw [w_inc i (by omega), w_inc d (by omega)]
            rw [if_pos (by omega), if_neg (by omega), if_neg (by omega)]
            iterate 11 rw [if_pos (by omega)]
            rw [if_neg c3, if_pos (by omega), hce.2.1, ed, Int.toNat_natCast, Int.toNat_natCast]
          · simp only [impl_costs.l1]
            rw [w_inc i (by omega), w_inc d (by omega)]
            rw [if_pos (by omega), if_neg (by omega), if_neg (by omega)]
            iterate 8 rw [if_pos (by omega)]
            rw [if_neg c3]
            iterate 4 rw [if_pos (by omega)]
            rw [ed, Int.toNat_natCast, Int.toNat_natCast]
theorem t_l0 (s t : ByteArray) (n m : Nat) (hn : s.size = n) (hm : t.size = m) (n32 : n ≤ 32) (m32 : m ≤ 32) : ∀ (e : Nat) (x : List (List Int)), e ≤ n + 1 → Tab n m x e → Both n m (fun k => spec_l05Table.l0 k s t x ((e : Int) - 1)) (fun k => impl_costs.l0 k s t x ((e : Int) - 1)) := by
  intro e
  induction e with
  | zero =>
    intro x he hx
    refine ⟨x, hx, Ev.from 1 fun k hk => ?_⟩
    obtain ⟨k, rfl⟩ : ∃ m, k = m + 1 := ⟨k - 1, by omega⟩
    constructor
    · simp only [spec_l05Table.l0]
      rw [if_neg (by omega)]
    · simp only [impl_costs.l0]
      rw [if_neg (by omega)]
  | succ e ih =>
    intro x he hx
    have hxl := hx.1
    have e6 : ((e + 1 : Nat) : Int) - 1 = (e : Int) := by omega
    have em : wrap64 ((t.size : Int) + 1) = ((m + 1 : Nat) : Int) := by unfold wrap64; omega
    rw [e6]
    have h := t_l1 s t n m hn hm n32 m32 e (by omega) (fun x hx => ih x (by omega) hx) (m + 1) _ (Nat.le_refl _) (tab_row n m x e (by omega) hx)
    rw [show ((m + 1 : Nat) : Int) - 1 = (t.size : Int) from by omega] at h
    refine h.step (fun k => ?_) (fun k => ?_)
    · simp only [spec_l05Table.l0]
      rw [em]
      iterate 5 rw [if_pos (by omega)]
      rw [Int.toNat_natCast, Int.toNat_natCast]
    · simp only [impl_costs.l0]
      rw [em]
      iterate 5 rw [if_pos (by omega)]
      rw [Int.toNat_natCast, Int.toNat_natCast]
/-- Both tables are one. -/
theorem t_eq (s t : ByteArray) (hs : s.size ≤ 32) (ht : t.size ≤ 32) : Both s.size t.size (fun k => spec_l05Table.f k s t) (fun k => impl_costs.f k s t) := by
  have h := t_l0 s t s.size t.size rfl rfl hs ht (s.size + 1) (List.replicate (s.size + 1) []) (Nat.le_refl _) ⟨by simp, fun a h1 h2 => by omega⟩
  have en : wrap64 ((s.size : Int) + 1) = ((s.size + 1 : Nat) : Int) := by unfold wrap64; omega
  rw [show ((s.size + 1 : Nat) : Int) - 1 = (s.size : Int) from by omega] at h
  obtain ⟨T, hT, h⟩ := h
  refine ⟨T, hT, h.imp fun k hk => ?_⟩
  show spec_l05Table.f k s t = some T ∧ impl_costs.f k s t = some T
  unfold spec_l05Table.f impl_costs.f
  rw [en, if_pos (by omega), if_pos (by omega), if_pos (by omega), if_pos (by omega), Int.toNat_natCast]
  exact hk
/-- Both capped distances are one. -/
theorem cap_both (s t : ByteArray) : ∃ v : Int, Ev fun k => spec_Capped.f k s t = some v ∧ impl_Capped.f k s t = some v := by
  by_cases c : s.size ≤ 32 ∧ t.size ≤ 32
  · obtain ⟨T, hT, h⟩ := t_eq s t c.1 c.2
    have hl := hT.1
    have h0 := (hT.2 0 (Nat.zero_le _) (Nat.zero_le _)).1
    have hr : (rd_L4 T (0 : Int)).length = t.size + 1 := h0
    refine ⟨mn 7 (rd (rd_L4 T (0 : Int)) 0), h.imp fun k hk0 => ?_⟩
    have hk : spec_l05Table.f k s t = some T ∧ impl_costs.f k s t = some T := hk0
    constructor
    · unfold spec_Capped.f spec_Distance.f spec_l05Long.f
      rw [if_neg (by omega), decide_eq_false (show ¬ ((t.size : Int) > 32) from by omega), Option.bind_some, if_neg (by simp), hk.1, Option.bind_some, if_pos (by omega), if_pos (by omega), Option.bind_some]
    · unfold impl_Capped.f impl_areShort.f
      rw [if_pos (by omega), decide_eq_true (show ((t.size : Int) ≤ 32) from by omega), Option.bind_some, if_pos rfl, hk.2, Option.bind_some, if_pos (by omega), if_pos (by omega)]
  · refine ⟨-1, Ev.from 0 fun k hk => ⟨?_, ?_⟩⟩
    · unfold spec_Capped.f spec_Distance.f spec_l05Long.f
      by_cases d : (s.size : Int) > 32
      · rw [if_pos d, Option.bind_some, if_pos rfl, Option.bind_some]
        rfl
      · rw [if_neg d, decide_eq_true (show ((t.size : Int) > 32) from by omega), Option.bind_some, if_pos rfl, Option.bind_some]
        rfl
    · unfold impl_Capped.f impl_areShort.f
      by_cases d : (s.size : Int) ≤ 32
      · rw [if_pos d, decide_eq_false (show ¬ ((t.size : Int) ≤ 32) from by omega), Option.bind_some, if_neg (by simp)]
      · rw [if_neg d, Option.bind_some, if_neg (by simp)]
/-- The state of a reader of draws: where it stands, and its seed. -/
def Ok (at_ seed b : Int) : Prop := 0 ≤ at_ ∧ at_ ≤ b ∧ 0 ≤ seed ∧ seed < 65521
def Bytes (l : List Int) : Prop := l.length ≤ 1048576 ∧ ∀ x, x ∈ l → 0 ≤ x ∧ x ≤ 255
theorem Ok.up {a s b b' : Int} (h : Ok a s b) (hb : b ≤ b') : Ok a s b' := ⟨h.1, by have := h.2.1; omega, h.2.2⟩
theorem bytes_of {l : List Int} (h1 : l.length ≤ 1048576) (h2 : ∀ x, x ∈ l → (Lit.int .u8 x).wf = true) : Bytes l := by
  refine ⟨h1, fun x hx => ?_⟩
  have := h2 x hx
  simp [Lit.wf, IntKind.min, IntKind.max, IntKind.signed, IntKind.bits] at this
  omega
theorem rd_byte {l : List Int} (h : Bytes l) (i : Int) : 0 ≤ rd l i ∧ rd l i ≤ 255 := by
  unfold rd
  rw [List.getD_eq_getElem?_getD]
  cases e : l[i.toNat]? with
  | none => simp
  | some x => exact h.2 x (List.mem_of_getElem? e)
theorem tmod_pos {a n : Int} (h0 : 0 ≤ a) (hn : 0 < n) : 0 ≤ Int.tmod a n ∧ Int.tmod a n < n := by
  rw [Int.tmod_eq_emod_of_nonneg h0]
  exact ⟨Int.emod_nonneg _ (by omega), Int.emod_lt_of_pos _ hn⟩
theorem pick_ok {l : List Int} (hl : Bytes l) {a s b : Int} (h : Ok a s b) (hb : b ≤ 1000000000000) (n : Int) :
    ∃ r a' s', spec_l01Cur_pick.f l a s n = some (r, a', s') ∧ 0 ≤ r ∧ (2 ≤ n → r < n) ∧ (n < 2 → r = 0) ∧ Ok a' s' (b + 1) := by
  obtain ⟨h0, h1, h2, h3⟩ := h
  have hlen := hl.1
  unfold spec_l01Cur_pick.f
  by_cases c1 : n < 2
  · rw [if_pos c1]
    exact ⟨0, a, s, rfl, by omega, fun _ => by omega, fun _ => rfl, h0, by omega, h2, h3⟩
  · rw [if_neg c1]
    have w1 : wrap64 (a + 1) = a + 1 := by unfold wrap64; omega
    have w2 : wrap64 (s * 1103) = s * 1103 := by unfold wrap64; omega
    have w3 : wrap64 (s * 1103 + 12345) = s * 1103 + 12345 := by unfold wrap64; omega
    rw [w1, w2, w3]
    have hs := tmod_pos (a := s * 1103 + 12345) (n := 65521) (by omega) (by omega)
    generalize Int.tmod (s * 1103 + 12345) 65521 = s1 at hs
    have hok : Ok (a + 1) s1 (b + 1) := ⟨by omega, by omega, hs.1, hs.2⟩
    by_cases c2 : a < (l.length : Int)
    · rw [if_pos c2, if_pos h0, if_neg (by omega)]
      have hr := rd_byte hl a
      rw [show wrap64 (rd l a) = rd l a from by unfold wrap64; omega]
      have hm := tmod_pos (a := rd l a) (n := n) hr.1 (by omega)
      exact ⟨_, _, _, rfl, hm.1, fun _ => hm.2, fun h => absurd h c1, by omega, by omega, h2, h3⟩
    · rw [if_neg c2]
      by_cases c3 : (l.length : Int) > 0
      · rw [if_pos c3, if_neg (by omega)]
        have hi := tmod_pos (a := a) (n := (l.length : Int)) h0 c3
        rw [if_pos hi.1, if_pos hi.2, if_neg (by omega)]
        have hr := rd_byte hl (Int.tmod a (l.length : Int))
        generalize rd l (Int.tmod a (l.length : Int)) = y at hr
        have hd : 0 ≤ Int.tdiv s1 7 ∧ Int.tdiv s1 7 ≤ 65521 := by
          rw [Int.tdiv_eq_ediv_of_nonneg hs.1]; omega
        generalize Int.tdiv s1 7 = z at hd
        rw [show wrap64 z = z from by unfold wrap64; omega, show wrap64 y = y from by unfold wrap64; omega, show wrap64 (z + y) = z + y from by unfold wrap64; omega]
        have hm := tmod_pos (a := z + y) (n := n) (by omega) (by omega)
        exact ⟨_, _, _, rfl, hm.1, fun _ => hm.2, fun h => absurd h c1, hok⟩
      · rw [if_neg c3, if_neg (by omega)]
        have e : (0 : Int) % n = 0 := Int.zero_emod n
        rw [e]
        exact ⟨_, _, _, rfl, by omega, fun _ => by omega, fun h => absurd h c1, hok⟩
theorem raw_ok {l : List Int} (hl : Bytes l) {a s b : Int} (h : Ok a s b) (hb : b ≤ 900000000000) :
    ∃ r a' s', spec_l01Cur_raw.f l a s = some (r, a', s') ∧ (-9223372036854775808 ≤ r ∧ r ≤ 9223372036854775807) ∧ Ok a' s' (b + 2) := by
  obtain ⟨r1, a1, s1, e1, k1, k2, _, o1⟩ := pick_ok hl h (by omega) 8
  unfold spec_l01Cur_raw.f
  rw [e1]
  simp only [Option.bind_some]
  by_cases c1 : r1 = 0
  · rw [if_pos c1]
    obtain ⟨r2, a2, s2, e2, k3, k4, _, o2⟩ := pick_ok hl o1 (by omega) 256
    rw [e2]
    have := k4 (by omega)
    exact ⟨_, _, _, rfl, by rw [show wrap64 (r2 - 128) = r2 - 128 from by unfold wrap64; omega]; omega, o2.up (by omega)⟩
  · rw [if_neg c1]
    by_cases c2 : r1 = 1
    · rw [if_pos c2]
      obtain ⟨r2, a2, s2, e2, k3, k4, _, o2⟩ := pick_ok hl o1 (by omega) 8
      simp only [e2, Option.bind_some]
      rw [if_pos k3, if_pos (by have := k4 (by omega); simpa using this)]
      refine ⟨_, _, _, rfl, ?_, o2.up (by omega)⟩
      have k5 := k4 (by omega)
      have h8 : r2 = 0 ∨ r2 = 1 ∨ r2 = 2 ∨ r2 = 3 ∨ r2 = 4 ∨ r2 = 5 ∨ r2 = 6 ∨ r2 = 7 := by omega
      rcases h8 with rfl | rfl | rfl | rfl | rfl | rfl | rfl | rfl <;> decide
    · rw [if_neg c2]
      obtain ⟨r2, a2, s2, e2, k3, k4, _, o2⟩ := pick_ok hl o1 (by omega) 14
      rw [e2]
      have := k4 (by omega)
      exact ⟨_, _, _, rfl, by rw [show wrap64 (r2 - 3) = r2 - 3 from by unfold wrap64; omega]; omega, o2.up (by omega)⟩
theorem open_ok {l : List Int} (hl : Bytes l) : ∃ s, spec_l01Open.f l = some (l, 0, s) ∧ Ok 0 s 0 := by
  refine ⟨_, rfl, by omega, by omega, ?_, ?_⟩ <;> omega
theorem once_ok {l : List Int} (hl : Bytes l) {a s b : Int} (h : Ok a s b) (hb : b ≤ 900000000000) (n : Int) :
    ∃ r a' s', spec_l01Cur_once.f l a s n = some (r, a', s') ∧ Ok a' s' (b + 1) := by
  obtain ⟨r, a', s', e, _, _, _, o⟩ := pick_ok hl h (by omega) n
  unfold spec_l01Cur_once.f
  rw [e]
  exact ⟨_, _, _, rfl, o⟩
theorem word_l0 {l : List Int} (hl : Bytes l) : ∀ (d k : Nat) (x : List Int) (a s b : Int) (n : Int), Ok a s b → b + 2 * (d : Int) ≤ 900000000000 → x.length ≤ 64 → n = (x.length : Int) + d → n ≤ 64 → d < k →
    ∃ w a' s', spec_l01Cur_word.l0 k n x l a s = some (w, a', s') ∧ (w.size : Int) = n ∧ Ok a' s' (b + 2 * (d : Int)) := by
  intro d
  induction d with
  | zero =>
    intro k x a s b n h hb hx hn hn2 hk
    obtain ⟨k, rfl⟩ : ∃ m, k = m + 1 := ⟨k - 1, by omega⟩
    simp only [spec_l01Cur_word.l0]
    rw [if_neg (by omega)]
    exact ⟨_, _, _, rfl, by rw [strOfNums_size]; omega, h.up (by omega)⟩
  | succ d ih =>
    intro k x a s b n h hb hx hn hn2 hk
    obtain ⟨k, rfl⟩ : ∃ m, k = m + 1 := ⟨k - 1, by omega⟩
    simp only [spec_l01Cur_word.l0]
    rw [if_pos (by omega)]
    simp only [Option.bind_some]
    obtain ⟨r1, a1, s1, e1, k1, k2, _, o1⟩ := pick_ok hl h (by omega) 3
    rw [e1]
    simp only [Option.bind_some]
    rw [if_pos k1, if_pos (by have := k2 (by omega); simpa using this)]
    obtain ⟨r2, a2, s2, e2, _, _, _, o2⟩ := pick_ok hl o1 (by omega) (rd [2, 3, 26] r1)
    rw [e2]
    simp only [Option.bind_some]
    rw [if_pos (by omega)]
    obtain ⟨w, a', s', e, hw, o⟩ := ih k (x ++ [wrap64 (97 + r2) % 256]) a2 s2 (b + 1 + 1) n o2 (by omega) (by simp; omega) (by simp; omega) hn2 (by omega)
    exact ⟨w, a', s', e, hw, o.up (by omega)⟩
theorem word_ok {l : List Int} (hl : Bytes l) {a s b : Int} (h : Ok a s b) (hb : b ≤ 800000000000) (k : Nat) (hk : 70 < k) :
    ∃ w a' s', spec_l01Cur_word.f k l a s = some (w, a', s') ∧ w.size ≤ 32 ∧ Ok a' s' (b + 70) := by
  unfold spec_l01Cur_word.f
  simp only [Option.bind_some]
  obtain ⟨r1, a1, s1, e1, k1, k2, _, o1⟩ := pick_ok hl h (by omega) 4
  rw [e1]
  simp only [Option.bind_some]
  have hr := k2 (by omega)
  rw [if_pos k1, if_pos (by simpa using hr)]
  have hm : 2 ≤ rd [3, 5, 8, 32] r1 ∧ rd [3, 5, 8, 32] r1 ≤ 32 := by
    have h4 : r1 = 0 ∨ r1 = 1 ∨ r1 = 2 ∨ r1 = 3 := by omega
    rcases h4 with rfl | rfl | rfl | rfl <;> decide
  obtain ⟨r2, a2, s2, e2, k3, k4, _, o2⟩ := pick_ok hl o1 (by omega) (rd [3, 5, 8, 32] r1)
  rw [e2]
  simp only [Option.bind_some]
  have hr2 := k4 hm.1
  rw [show wrap64 (1 + r2) = 1 + r2 from by unfold wrap64; omega]
  obtain ⟨n, rfl⟩ := Int.eq_ofNat_of_zero_le k3
  obtain ⟨w, a', s', e, hw, o⟩ := word_l0 hl (n + 1) k [] a2 s2 _ (1 + (n : Int)) o2 (by omega) (by simp) (by simp; omega) (by omega) (by omega)
  exact ⟨w, a', s', e, by omega, o.up (by omega)⟩
theorem badWord_ok {l : List Int} (hl : Bytes l) {a s b : Int} (h : Ok a s b) (hb : b ≤ 700000000000) (k : Nat) (hk : 70 < k) :
    ∃ w a' s', spec_l01Cur_badWord.f k l a s = some (w, a', s') ∧ w.size ≤ 100 ∧ Ok a' s' (b + 80) := by
  unfold spec_l01Cur_badWord.f
  obtain ⟨w, a0, s0, e0, hw, o0⟩ := word_ok hl h (by omega) k hk
  rw [e0]
  simp only [Option.bind_some]
  obtain ⟨r1, a1, s1, e1, _, _, _, o1⟩ := pick_ok hl o0 (by omega) 9
  rw [e1]
  simp only [Option.bind_some]
  by_cases c0 : r1 = 0
  · rw [if_pos c0]
    rw [show wrap64 ((w.size : Int) + 1) = (w.size : Int) + 1 from by unfold wrap64; omega]
    obtain ⟨r2, a2, s2, e2, k3, k4, k5, o2⟩ := pick_ok hl o1 (by omega) ((w.size : Int) + 1)
    rw [e2]
    simp only [Option.bind_some]
    have h2 : r2 ≤ (w.size : Int) := by
      by_cases c : 2 ≤ (w.size : Int) + 1
      · have := k4 c; omega
      · have := k5 (by omega); omega
    rw [if_pos k3, if_pos h2]
    obtain ⟨r3, a3, s3, e3, k6, k7, _, o3⟩ := pick_ok hl o2 (by omega) 6
    rw [e3]
    simp only [Option.bind_some]
    have h3 := k7 (by omega)
    rw [if_pos k6, if_pos (by simpa using h3)]
    have hq : (rdOf ByteArray.empty [(⟨#[]⟩ : ByteArray), (⟨#[65]⟩ : ByteArray), (⟨#[45]⟩ : ByteArray), (⟨#[0]⟩ : ByteArray), (⟨#[122, 122]⟩ : ByteArray), (⟨#[123]⟩ : ByteArray)] r3).size ≤ 2 := by
      have h6 : r3 = 0 ∨ r3 = 1 ∨ r3 = 2 ∨ r3 = 3 ∨ r3 = 4 ∨ r3 = 5 := by omega
      rcases h6 with rfl | rfl | rfl | rfl | rfl | rfl <;> decide
    generalize rdOf ByteArray.empty [(⟨#[]⟩ : ByteArray), (⟨#[65]⟩ : ByteArray), (⟨#[45]⟩ : ByteArray), (⟨#[0]⟩ : ByteArray), (⟨#[122, 122]⟩ : ByteArray), (⟨#[123]⟩ : ByteArray)] r3 = z at hq
    have hs1 : (w.extract 0 r2.toNat).size ≤ 32 := by rw [ByteArray.size_extract]; omega
    have hs2 : (w.extract r2.toNat w.size).size ≤ 32 := by rw [ByteArray.size_extract]; omega
    have hs3 : (w.extract 0 r2.toNat ++ z).size ≤ 34 := by rw [ByteArray.size_append]; omega
    rw [if_pos (by omega), if_pos (by omega)]
    exact ⟨_, _, _, rfl, by rw [ByteArray.size_append]; omega, o3.up (by omega)⟩
  · rw [if_neg c0]
    by_cases c1 : r1 = 1
    · rw [if_pos c1]
      exact ⟨_, _, _, rfl, Nat.zero_le _, o1.up (by omega)⟩
    · rw [if_neg c1]
      by_cases c2 : r1 = 2
      · rw [if_pos c2, if_pos (by omega)]
        obtain ⟨r2, a2, s2, e2, k3, k4, _, o2⟩ := pick_ok hl o1 (by omega) 33
        rw [e2]
        simp only [Option.bind_some]
        have h2 := k4 (by omega)
        rw [if_pos k3, if_pos (by omega)]
        have hs1 : (w ++ w).size ≤ 64 := by rw [ByteArray.size_append]; omega
        have hs2 : ((⟨#[97, 97, 97, 97, 97, 97, 97, 97, 97, 97, 97, 97, 97, 97, 97, 97, 97, 97, 97, 97, 97, 97, 97, 97, 97, 97, 97, 97, 97, 97, 97, 97]⟩ : ByteArray).extract 0 (r2 : Int).toNat).size ≤ 32 := by
          rw [ByteArray.size_extract]; omega
        generalize ((⟨#[97, 97, 97, 97, 97, 97, 97, 97, 97, 97, 97, 97, 97, 97, 97, 97, 97, 97, 97, 97, 97, 97, 97, 97, 97, 97, 97, 97, 97, 97, 97, 97]⟩ : ByteArray).extract 0 (r2 : Int).toNat) = z at hs2
        rw [if_pos (by omega)]
        exact ⟨_, _, _, rfl, by rw [ByteArray.size_append]; omega, o2.up (by omega)⟩
      · rw [if_neg c2]
        exact ⟨_, _, _, rfl, by omega, o1.up (by omega)⟩
theorem lets_all (s : ByteArray) (h : ∀ j : Nat, j < s.size → 97 ≤ bt s (j : Int) ∧ bt s (j : Int) ≤ 122) : ∀ (d i : Nat), i + d ≤ s.size → lets s d i = true
  | 0, _, _ => rfl
  | d + 1, i, hi => by
    rw [lets_succ, lets_all s h d (i + 1) (by omega)]
    have := h i (by omega)
    unfold letB
    rw [decide_eq_true this.1, decide_eq_true this.2]; rfl
theorem wOk_of (s : ByteArray) (hs : s.size ≤ 32) (h : ∀ j : Nat, j < s.size → 97 ≤ bt s (j : Int) ∧ bt s (j : Int) ≤ 122) : wOk s = true := by
  unfold wOk
  by_cases c : s.toList = ([] : List UInt8)
  · rw [if_pos c]
  · rw [if_neg c]
    have h1 : 1 ≤ s.size := by
      apply Nat.pos_of_ne_zero
      intro e
      apply c
      rw [ByteArray.toList_eq]
      rw [← data_length] at e
      exact List.eq_nil_of_length_eq_zero e
    unfold wordB
    rw [decide_eq_true h1, decide_eq_true hs, lets_all s h s.size 0 (by omega)]; rfl
theorem bt_str (x : List Int) (i : Nat) (h : i < x.length) (h0 : 0 ≤ x[i]) (h1 : x[i] ≤ 255) : bt (strOfNums x) (i : Int) = x[i] := by
  rw [← bytes_at (strOfNums x) i (by rw [strOfNums_size]; exact h) (by simp [bytesOf, strOfNums, h])]
  have e : (bytesOf (strOfNums x))[i]'(by simp [bytesOf, strOfNums, h]) = ((UInt8.ofNat x[i].toNat).toNat : Int) := by
    simp [bytesOf, strOfNums]
  rw [e, UInt8.toNat_ofNat']
  omega
def Ltr (x : List Int) : Prop := ∀ y, y ∈ x → 97 ≤ y ∧ y ≤ 122
theorem ltr_ok (x : List Int) (hx : x.length ≤ 32) (h : Ltr x) : wOk (strOfNums x) = true := by
  refine wOk_of _ (by rw [strOfNums_size]; exact hx) fun j hj => ?_
  rw [strOfNums_size] at hj
  have := h x[j] (List.getElem_mem hj)
  rw [bt_str x j hj (by omega) (by omega)]
  exact this
theorem wordG_l0 {l : List Int} (hl : Bytes l) : ∀ (d k : Nat) (x : List Int) (a s b : Int) (n : Int), Ok a s b → b + 2 * (d : Int) ≤ 900000000000 → Ltr x → n = (x.length : Int) + d → n ≤ 32 → d < k →
    ∃ w a' s', spec_l01Cur_word.l0 k n x l a s = some (w, a', s') ∧ wOk w = true ∧ Ok a' s' (b + 2 * (d : Int)) := by
  intro d
  induction d with
  | zero =>
    intro k x a s b n h hb hx hn hn2 hk
    obtain ⟨k, rfl⟩ : ∃ m, k = m + 1 := ⟨k - 1, by omega⟩
    simp only [spec_l01Cur_word.l0]
    rw [if_neg (by omega)]
    exact ⟨_, _, _, rfl, ltr_ok x (by omega) hx, h.up (by omega)⟩
  | succ d ih =>
    intro k x a s b n h hb hx hn hn2 hk
    obtain ⟨k, rfl⟩ : ∃ m, k = m + 1 := ⟨k - 1, by omega⟩
    simp only [spec_l01Cur_word.l0]
    rw [if_pos (by omega)]
    simp only [Option.bind_some]
    obtain ⟨r1, a1, s1, e1, k1, k2, _, o1⟩ := pick_ok hl h (by omega) 3
    have hr1 := k2 (by omega)
    have hm : 2 ≤ rd [2, 3, 26] r1 ∧ rd [2, 3, 26] r1 ≤ 26 := by
      have h4 : r1 = 0 ∨ r1 = 1 ∨ r1 = 2 := by omega
      rcases h4 with rfl | rfl | rfl <;> decide
    rw [e1]
    simp only [Option.bind_some]
    rw [if_pos k1, if_pos (by simpa using hr1)]
    obtain ⟨r2, a2, s2, e2, k3, k4, _, o2⟩ := pick_ok hl o1 (by omega) (rd [2, 3, 26] r1)
    have hr2 := k4 hm.1
    rw [e2]
    simp only [Option.bind_some]
    rw [if_pos (by omega)]
    have e3 : wrap64 (97 + r2) % 256 = 97 + r2 := by
      generalize rd [2, 3, 26] r1 = q at *
      unfold wrap64; omega
    rw [e3]
    obtain ⟨w, a', s', e, hw, o⟩ := ih k (x ++ [97 + r2]) a2 s2 (b + 1 + 1) n o2 (by omega) (by
      intro y hy
      rcases List.mem_append.1 hy with hy | hy
      · exact hx y hy
      · rw [List.mem_singleton] at hy
        subst hy
        generalize rd [2, 3, 26] r1 = q at *
        omega) (by simp; omega) hn2 (by omega)
    exact ⟨w, a', s', e, hw, o.up (by omega)⟩
theorem wordG_ok {l : List Int} (hl : Bytes l) {a s b : Int} (h : Ok a s b) (hb : b ≤ 800000000000) (k : Nat) (hk : 70 < k) :
    ∃ w a' s', spec_l01Cur_word.f k l a s = some (w, a', s') ∧ wOk w = true ∧ Ok a' s' (b + 70) := by
  unfold spec_l01Cur_word.f
  simp only [Option.bind_some]
  obtain ⟨r1, a1, s1, e1, k1, k2, _, o1⟩ := pick_ok hl h (by omega) 4
  rw [e1]
  simp only [Option.bind_some]
  have hr := k2 (by omega)
  rw [if_pos k1, if_pos (by simpa using hr)]
  have hm : 2 ≤ rd [3, 5, 8, 32] r1 ∧ rd [3, 5, 8, 32] r1 ≤ 32 := by
    have h4 : r1 = 0 ∨ r1 = 1 ∨ r1 = 2 ∨ r1 = 3 := by omega
    rcases h4 with rfl | rfl | rfl | rfl <;> decide
  obtain ⟨r2, a2, s2, e2, k3, k4, _, o2⟩ := pick_ok hl o1 (by omega) (rd [3, 5, 8, 32] r1)
  rw [e2]
  simp only [Option.bind_some]
  have hr2 := k4 hm.1
  rw [show wrap64 (1 + r2) = 1 + r2 from by generalize rd [3, 5, 8, 32] r1 = q at *; unfold wrap64; omega]
  obtain ⟨n, rfl⟩ := Int.eq_ofNat_of_zero_le k3
  obtain ⟨w, a', s', e, hw, o⟩ := wordG_l0 hl (n + 1) k [] a2 s2 _ (1 + (n : Int)) o2 (by omega) (by intro y hy; cases hy) (by simp; omega) (by generalize rd [3, 5, 8, 32] r1 = q at *; omega) (by generalize rd [3, 5, 8, 32] r1 = q at *; omega)
  exact ⟨w, a', s', e, hw, o.up (by generalize rd [3, 5, 8, 32] r1 = q at *; omega)⟩
def Ws (x : List ByteArray) : Prop := ∀ b, b ∈ x → wOk b = true
theorem ev_mono {α : Type} (f : Nat → Option α) (hm : ∀ k, LeO (f k) (f (k + 1))) (k0 : Nat) (r : α) (h : f k0 = some r) : Ev fun k => f k = some r := by
  refine ⟨k0, fun k hk => ?_⟩
  obtain ⟨d, rfl⟩ : ∃ d, k = k0 + d := ⟨k - k0, by omega⟩
  clear hk
  induction d with
  | zero => exact h
  | succ d ih => exact hm _ _ ih
theorem Ws.app {x : List ByteArray} (h : Ws x) {b : ByteArray} (hb : wOk b = true) : Ws (x ++ [b]) := by
  intro y hy
  rcases List.mem_append.1 hy with hy | hy
  · exact h y hy
  · rw [List.mem_singleton] at hy
    subst hy
    exact hb
theorem ws_all {x : List ByteArray} (h : Ws x) : ∀ m, m ≤ x.length → allW x m = true
  | 0, _ => rfl
  | m + 1, hm => by
    unfold allW
    rw [ws_all h m (by omega), wd_get x m (by omega), h _ (List.getElem_mem _)]; rfl
theorem word_ev {l : List Int} (hl : Bytes l) {a s b : Int} (h : Ok a s b) (hb : b ≤ 800000000000) :
    ∃ w a' s', (Ev fun k => spec_l01Cur_word.f k l a s = some (w, a', s')) ∧ wOk w = true ∧ Ok a' s' (b + 70) := by
  obtain ⟨w, a', s', e, hw, o⟩ := wordG_ok hl h hb 71 (by omega)
  exact ⟨w, a', s', ev_mono (fun k => spec_l01Cur_word.f k l a s) (fun k => spec_l01Cur_word.mono _ _ _ k) 71 _ e, hw, o⟩
theorem badWord_ev {l : List Int} (hl : Bytes l) {a s b : Int} (h : Ok a s b) (hb : b ≤ 700000000000) :
    ∃ w a' s', (Ev fun k => spec_l01Cur_badWord.f k l a s = some (w, a', s')) ∧ w.size ≤ 100 ∧ Ok a' s' (b + 80) := by
  obtain ⟨w, a', s', e, hw, o⟩ := badWord_ok hl h hb 71 (by omega)
  exact ⟨w, a', s', ev_mono (fun k => spec_l01Cur_badWord.f k l a s) (fun k => spec_l01Cur_badWord.mono _ _ _ k) 71 _ e, hw, o⟩
theorem size12_ok {l : List Int} (hl : Bytes l) {a s b : Int} (h : Ok a s b) (hb : b ≤ 900000000000) :
    ∃ (n : Nat) (a' s' : Int), spec_l01Cur_size.f l a s 12 = some ((n : Int), a', s') ∧ n ≤ 12 ∧ Ok a' s' (b + 1) := by
  unfold spec_l01Cur_size.f
  have hlen := hl.1
  have hd : 0 ≤ (l.length : Int) / 8 ∧ (l.length : Int) / 8 ≤ 1048576 := by omega
  generalize (l.length : Int) / 8 = q at hd
  rw [show wrap64 q = q from by unfold wrap64; omega, show wrap64 (1 + q) = 1 + q from by unfold wrap64; omega]
  have hm : 1 ≤ mn 12 (1 + q) ∧ mn 12 (1 + q) ≤ 12 := by unfold mn; split <;> omega
  generalize mn 12 (1 + q) = m at hm
  rw [show wrap64 (m + 1) = m + 1 from by unfold wrap64; omega]
  obtain ⟨r, a1, s1, e1, k1, k2, k3, o1⟩ := pick_ok hl h (by omega) (m + 1)
  rw [e1]
  simp only [Option.bind_some]
  have := k2 (by omega)
  obtain ⟨n, rfl⟩ := Int.eq_ofNat_of_zero_le k1
  exact ⟨n, a1, s1, rfl, by omega, o1⟩
theorem words_l0 {l : List Int} (hl : Bytes l) : ∀ (d : Nat) (x : List ByteArray) (a s b : Int), Ok a s b → b + 80 * (d : Int) ≤ 700000000000 → x.length + d ≤ 100 → Ws x →
    ∃ y a' s', (Ev fun k => spec_l01Cur_words.l0 k x (d : Int) l a s = some (y, a', s')) ∧ Ws y ∧ y.length = x.length + d ∧ Ok a' s' (b + 80 * (d : Int)) := by
  intro d
  induction d with
  | zero =>
    intro x a s b h hb hx hw
    refine ⟨x, a, s, (Ev.from 1 fun k hk => ?_), hw, rfl, h.up (by omega)⟩
    obtain ⟨k, rfl⟩ : ∃ m, k = m + 1 := ⟨k - 1, by omega⟩
    simp only [spec_l01Cur_words.l0]
    rw [if_neg (by omega)]
  | succ d ih =>
    intro x a s b h hb hx hw
    obtain ⟨w, a1, s1, e1, hw1, o1⟩ := word_ev hl h (by omega)
    obtain ⟨r, a2, s2, e2, o2⟩ := once_ok hl o1 (by omega) 6
    have he : wOk (⟨#[]⟩ : ByteArray) = true := by unfold wOk; rw [if_pos (by rw [ByteArray.toList_eq])]
    have hwr : wrap64 (((d + 1 : Nat) : Int) - 1) = (d : Int) := w_up d (by omega)
    by_cases c : r = true
    · obtain ⟨y, a', s', e, hy, hn, o⟩ := ih (x ++ [(⟨#[]⟩ : ByteArray)]) a2 s2 _ o2 (by omega) (by rw [List.length_append, List.length_singleton]; omega) (hw.app he)
      refine ⟨y, a', s', (e1.and e).up fun k hk => ?_, hy, by rw [hn, List.length_append, List.length_singleton]; omega, o.up (by omega)⟩
      simp only [spec_l01Cur_words.l0]
      rw [if_pos (by omega), hk.1, Option.bind_some]
      dsimp only
      rw [e2, Option.bind_some]
      dsimp only
      rw [if_pos c, if_pos (by omega), hwr]
      exact hk.2
    · obtain ⟨y, a', s', e, hy, hn, o⟩ := ih (x ++ [w]) a2 s2 _ o2 (by omega) (by rw [List.length_append, List.length_singleton]; omega) (hw.app hw1)
      refine ⟨y, a', s', (e1.and e).up fun k hk => ?_, hy, by rw [hn, List.length_append, List.length_singleton]; omega, o.up (by omega)⟩
      simp only [spec_l01Cur_words.l0]
      rw [if_pos (by omega), hk.1, Option.bind_some]
      dsimp only
      rw [e2, Option.bind_some]
      dsimp only
      rw [if_neg c, if_pos (by omega), hwr]
      exact hk.2
theorem words_ev {l : List Int} (hl : Bytes l) {a s b : Int} (h : Ok a s b) (hb : b ≤ 600000000000) :
    ∃ y a' s', (Ev fun k => spec_l01Cur_words.f k l a s 12 = some (y, a', s')) ∧ Ws y ∧ y.length ≤ 12 ∧ Ok a' s' (b + 1000) := by
  obtain ⟨n, a1, s1, e1, hn, o1⟩ := size12_ok hl h (by omega)
  obtain ⟨y, a', s', e, hy, hlen, o⟩ := words_l0 hl n [] a1 s1 _ o1 (by omega) (by simp; omega) (fun b hb => by cases hb)
  refine ⟨y, a', s', e.imp fun k hk => ?_, hy, by rw [hlen]; simp; omega, o.up (by omega)⟩
  unfold spec_l01Cur_words.f
  rw [e1, Option.bind_some]
  exact hk
theorem drawP_l0 {l : List Int} (hl : Bytes l) : ∀ (d : Nat) (x : List ByteArray) (a s b : Int), Ok a s b → b + 80 * (d : Int) ≤ 700000000000 → x.length + d = 66 → Ws x →
    ∃ y, (Ev fun k => spec_DrawPlanesOf.l0 k x l a s = some y) ∧ Ws y := by
  intro d
  induction d with
  | zero =>
    intro x a s b h hb hx hw
    obtain ⟨r, a1, s1, e1, k1, k2, _, o1⟩ := pick_ok hl h (by omega) 2
    have hr := k2 (by omega)
    refine ⟨x, (Ev.from 1 fun k hk => ?_), hw⟩
    obtain ⟨k, rfl⟩ : ∃ m, k = m + 1 := ⟨k - 1, by omega⟩
    simp only [spec_DrawPlanesOf.l0]
    rw [e1, Option.bind_some, if_neg (by dsimp only; unfold wrap64; omega)]
  | succ d ih =>
    intro x a s b h hb hx hw
    obtain ⟨r, a1, s1, e1, k1, k2, _, o1⟩ := pick_ok hl h (by omega) 2
    have hr := k2 (by omega)
    by_cases c : (x.length : Int) < wrap64 (64 + r)
    · obtain ⟨w, a2, s2, e2, hw2, o2⟩ := word_ev hl o1 (by omega)
      obtain ⟨y, e, hy⟩ := ih (x ++ [w]) a2 s2 _ o2 (by omega) (by rw [List.length_append, List.length_singleton]; omega) (hw.app hw2)
      refine ⟨y, (e2.and e).up fun k hk => ?_, hy⟩
      simp only [spec_DrawPlanesOf.l0]
      rw [e1, Option.bind_some]
      dsimp only
      rw [if_pos c, hk.1, Option.bind_some]
      dsimp only
      rw [if_pos (by omega)]
      exact hk.2
    · refine ⟨x, (Ev.from 1 fun k hk => ?_), hw⟩
      obtain ⟨k, rfl⟩ : ∃ m, k = m + 1 := ⟨k - 1, by omega⟩
      simp only [spec_DrawPlanesOf.l0]
      rw [e1, Option.bind_some]
      dsimp only
      rw [if_neg c]
theorem ws_size {x : List ByteArray} (h : Ws x) : ∀ b, b ∈ x → b.size ≤ 100 := fun b hb => by have := (wOk_sz b (h b hb)).1; omega
theorem drawPlanesOf_ev {l : List Int} (hl : Bytes l) : ∃ y, (Ev fun k => spec_DrawPlanesOf.f k l = some y) ∧ ∀ b, b ∈ y → b.size ≤ 100 := by
  obtain ⟨s, e0, o0⟩ := open_ok hl
  obtain ⟨x, a1, s1, e1, hx, hn, o1⟩ := words_ev hl o0 (by omega)
  obtain ⟨r, a2, s2, e2, k1, k2, _, o2⟩ := pick_ok hl o1 (by omega) 8
  by_cases c0 : r = 0
  · obtain ⟨w, a3, s3, e3, hw, o3⟩ := badWord_ev hl o2 (by omega)
    refine ⟨x ++ [w], (e1.and e3).imp fun k hk => ?_, fun b hb => ?_⟩
    · unfold spec_DrawPlanesOf.f
      rw [e0, Option.bind_some]
      dsimp only
      rw [hk.1, Option.bind_some]
      dsimp only
      rw [e2, Option.bind_some]
      dsimp only
      rw [if_pos c0, hk.2, Option.bind_some]
      exact if_pos (by omega)
    · rcases List.mem_append.1 hb with hb | hb
      · exact ws_size hx b hb
      · rw [List.mem_singleton] at hb
        subst hb
        exact hw
  · by_cases c1 : r = 1
    · obtain ⟨y, e3, hy⟩ := drawP_l0 hl (66 - x.length) x a2 s2 _ o2 (by omega) (by omega) hx
      refine ⟨y, (e1.and e3).imp fun k hk => ?_, ws_size hy⟩
      unfold spec_DrawPlanesOf.f
      rw [e0, Option.bind_some]
      dsimp only
      rw [hk.1, Option.bind_some]
      dsimp only
      rw [e2, Option.bind_some]
      dsimp only
      rw [if_neg c0, if_pos c1]
      exact hk.2
    · refine ⟨x, e1.imp fun k hk => ?_, ws_size hx⟩
      unfold spec_DrawPlanesOf.f
      rw [e0, Option.bind_some]
      dsimp only
      rw [hk, Option.bind_some]
      dsimp only
      rw [e2, Option.bind_some]
      dsimp only
      rw [if_neg c0, if_neg c1]
theorem bits_l0 {l : List Int} (hl : Bytes l) : ∀ (d : Nat) (v a s b n : Int), Ok a s b → b + (d : Int) ≤ 700000000000 → n + (d : Int) = 8 → 0 ≤ n →
    ∃ v' a' s', (Ev fun k => spec_l01Cur_bits.l0 k v n l a s = some (v', a', s')) ∧ Ok a' s' (b + (d : Int)) := by
  intro d
  induction d with
  | zero =>
    intro v a s b n h hb hn h0
    refine ⟨v, a, s, (Ev.from 1 fun k hk => ?_), h.up (by omega)⟩
    obtain ⟨k, rfl⟩ : ∃ m, k = m + 1 := ⟨k - 1, by omega⟩
    simp only [spec_l01Cur_bits.l0]
    rw [if_neg (by omega)]
  | succ d ih =>
    intro v a s b n h hb hn h0
    obtain ⟨r, a1, s1, e1, _, _, _, o1⟩ := pick_ok hl h (by omega) 256
    obtain ⟨v', a', s', e, o⟩ := ih (IntKind.u64.wrap ((IntKind.u64.wrap (256 * v)) + (IntKind.u64.wrap r))) a1 s1 _ (n + 1) o1 (by omega) (by omega) (by omega)
    refine ⟨v', a', s', e.up fun k hk => ?_, o.up (by omega)⟩
    simp only [spec_l01Cur_bits.l0]
    rw [if_pos (by omega), e1, Option.bind_some]
    dsimp only
    rw [show wrap64 (n + 1) = n + 1 from by unfold wrap64; omega]
    exact hk
theorem bits_ev {l : List Int} (hl : Bytes l) {a s b : Int} (h : Ok a s b) (hb : b ≤ 600000000000) :
    ∃ v a' s', (Ev fun k => spec_l01Cur_bits.f k l a s = some (v, a', s')) ∧ Ok a' s' (b + 20) := by
  obtain ⟨r, a1, s1, e1, _, _, _, o1⟩ := pick_ok hl h (by omega) 6
  by_cases c0 : r = 0
  · refine ⟨18446744073709551615, a1, s1, Ev.from 0 fun k _ => ?_, o1.up (by omega)⟩
    unfold spec_l01Cur_bits.f
    rw [e1, Option.bind_some]
    dsimp only
    rw [if_pos c0]
  · by_cases c1 : r = 1
    · obtain ⟨r2, a2, s2, e2, _, _, _, o2⟩ := pick_ok hl o1 (by omega) 4
      refine ⟨IntKind.u64.wrap r2, a2, s2, Ev.from 0 fun k _ => ?_, o2.up (by omega)⟩
      unfold spec_l01Cur_bits.f
      rw [e1, Option.bind_some]
      dsimp only
      rw [if_neg c0, if_pos c1, e2, Option.bind_some]
    · by_cases c2 : r = 2
      · obtain ⟨r2, a2, s2, e2, _, _, _, o2⟩ := pick_ok hl o1 (by omega) 3
        refine ⟨IntKind.u64.wrap (9223372036854775808 + (IntKind.u64.wrap r2)), a2, s2, Ev.from 0 fun k _ => ?_, o2.up (by omega)⟩
        unfold spec_l01Cur_bits.f
        rw [e1, Option.bind_some]
        dsimp only
        rw [if_neg c0, if_neg c1, if_pos c2, e2, Option.bind_some]
      · obtain ⟨v, a2, s2, e2, o2⟩ := bits_l0 hl 8 0 a1 s1 _ 0 o1 (by omega) (by omega) (by omega)
        refine ⟨v, a2, s2, e2.imp fun k hk => ?_, o2.up (by omega)⟩
        unfold spec_l01Cur_bits.f
        rw [e1, Option.bind_some]
        dsimp only
        rw [if_neg c0, if_neg c1, if_neg c2]
        exact hk
theorem planes_j1 {l : List Int} (hl : Bytes l) (x : List ByteArray) (hx : Ws x) (h64 : x.length ≤ 64) {a s b : Int} (h : Ok a s b) (hb : b ≤ 500000000000) :
    ∃ R, Ev fun k => spec_l01Cur_planes.j1 k x l a s = some R := by
  have hp := sPlanes x (fun j hj => by rw [wd_get x j hj]; have := ws_size hx x[j] (List.getElem_mem hj); omega)
  have hT : planT x = ((x.length : Int), plist (lensL x) 6 x.length, flat x x.length 0, true) := by
    unfold planT
    rw [if_pos ⟨h64, ws_all hx x.length (Nat.le_refl _)⟩]
  rw [hT] at hp
  have hA : (plist (lensL x) 6 x.length).length = 6 := plist_len _ _ _
  have hB : (flat x x.length 0).length = 160 := flat_len _ _ _
  generalize plist (lensL x) 6 x.length = A at *
  generalize flat x x.length 0 = B at *
  obtain ⟨r, a1, s1, e1, k1, k2, _, o1⟩ := pick_ok hl h (by omega) 12
  by_cases c0 : r = 0
  · obtain ⟨i, a2, s2, e2, k3, k4, _, o2⟩ := pick_ok hl o1 (by omega) 160
    have hi := k4 (by omega)
    obtain ⟨v, a3, s3, e3, o3⟩ := bits_ev hl o2 (by omega)
    refine ⟨((x.length : Int), A, B.set (i : Int).toNat v, a3, s3), (hp.and e3).up fun k hk => ?_⟩
    simp only [spec_l01Cur_planes.j1]
    rw [hk.1, Option.bind_some]
    dsimp only
    rw [e1, Option.bind_some]
    dsimp only
    rw [if_pos c0, e2, Option.bind_some]
    dsimp only
    rw [hk.2, Option.bind_some]
    dsimp only
    rw [if_pos k3, if_pos (by omega)]
  · by_cases c1 : r = 1
    · obtain ⟨v, a2, s2, e2, _, o2⟩ := raw_ok hl o1 (by omega)
      obtain ⟨i, a3, s3, e3, k3, k4, _, o3⟩ := pick_ok hl o2 (by omega) 3
      have hi := k4 (by omega)
      refine ⟨(rd [v, wrap64 ((x.length : Int) + 1), 64] i, A, B, a3, s3), hp.up fun k hk => ?_⟩
      simp only [spec_l01Cur_planes.j1]
      rw [hk, Option.bind_some]
      dsimp only
      rw [e1, Option.bind_some]
      dsimp only
      rw [if_neg c0, if_pos c1, e2, Option.bind_some]
      dsimp only
      rw [Option.bind_some, e3, Option.bind_some]
      dsimp only
      rw [if_pos k3, if_pos (by show i < ((3 : Nat) : Int); omega)]
    · by_cases c2 : r = 2
      · obtain ⟨i, a3, s3, e3, k3, k4, _, o3⟩ := pick_ok hl o1 (by omega) 2
        have hi := k4 (by omega)
        refine ⟨((x.length : Int), (A ++ [0]).drop (i : Int).toNat, B, a3, s3), hp.up fun k hk => ?_⟩
        simp only [spec_l01Cur_planes.j1]
        rw [hk, Option.bind_some]
        dsimp only
        rw [e1, Option.bind_some]
        dsimp only
        rw [if_neg c0, if_neg c1, if_pos c2, if_pos (by omega), Option.bind_some, e3, Option.bind_some]
        dsimp only
        rw [if_pos k3, if_pos (by rw [List.length_append, List.length_singleton]; omega)]
      · by_cases c3 : r = 3
        · obtain ⟨i, a2, s2, e2, k3, k4, _, o2⟩ := pick_ok hl o1 (by omega) 6
          have hi := k4 (by omega)
          obtain ⟨v, a3, s3, e3, o3⟩ := bits_ev hl o2 (by omega)
          refine ⟨((x.length : Int), A.set (i : Int).toNat v, B, a3, s3), (hp.and e3).up fun k hk => ?_⟩
          simp only [spec_l01Cur_planes.j1]
          rw [hk.1, Option.bind_some]
          dsimp only
          rw [e1, Option.bind_some]
          dsimp only
          rw [if_neg c0, if_neg c1, if_neg c2, if_pos c3, e2, Option.bind_some]
          dsimp only
          rw [hk.2, Option.bind_some]
          dsimp only
          rw [if_pos k3, if_pos (by omega)]
        · refine ⟨((x.length : Int), A, B, a1, s1), hp.up fun k hk => ?_⟩
          simp only [spec_l01Cur_planes.j1]
          rw [hk, Option.bind_some]
          dsimp only
          rw [e1, Option.bind_some]
          dsimp only
          rw [if_neg c0, if_neg c1, if_neg c2, if_neg c3]
theorem planes_l0 {l : List Int} (hl : Bytes l) : ∀ (d : Nat) (x : List ByteArray) (a s b : Int), Ok a s b → b + 80 * (d : Int) ≤ 500000000000 → x.length + d = 64 → Ws x →
    ∃ R, Ev fun k => spec_l01Cur_planes.l0 k x l a s = some R := by
  intro d
  induction d with
  | zero =>
    intro x a s b h hb hx hw
    obtain ⟨R, e⟩ := planes_j1 hl x hw (by omega) h (by omega)
    refine ⟨R, e.up fun k hk => ?_⟩
    simp only [spec_l01Cur_planes.l0]
    rw [if_neg (by omega)]
    exact hk
  | succ d ih =>
    intro x a s b h hb hx hw
    obtain ⟨w, a1, s1, e1, hw1, o1⟩ := word_ev hl h (by omega)
    obtain ⟨R, e⟩ := ih (x ++ [w]) a1 s1 _ o1 (by omega) (by rw [List.length_append, List.length_singleton]; omega) (hw.app hw1)
    refine ⟨R, (e1.and e).up fun k hk => ?_⟩
    simp only [spec_l01Cur_planes.l0]
    rw [if_pos (by omega), hk.1, Option.bind_some]
    dsimp only
    rw [if_pos (by omega)]
    exact hk.2
theorem planes_ev {l : List Int} (hl : Bytes l) {a s b : Int} (h : Ok a s b) (hb : b ≤ 400000000000) :
    ∃ R, Ev fun k => spec_l01Cur_planes.f k l a s = some R := by
  obtain ⟨x, a1, s1, e1, hx, hn, o1⟩ := words_ev hl h (by omega)
  obtain ⟨r, a2, s2, e2, o2⟩ := once_ok hl o1 (by omega) 9
  by_cases c : r = true
  · obtain ⟨R, e⟩ := planes_l0 hl (64 - x.length) x a2 s2 _ o2 (by omega) (by omega) hx
    refine ⟨R, (e1.and e).imp fun k hk => ?_⟩
    unfold spec_l01Cur_planes.f
    rw [hk.1, Option.bind_some]
    dsimp only
    rw [e2, Option.bind_some]
    dsimp only
    rw [if_pos c]
    exact hk.2
  · obtain ⟨R, e⟩ := planes_j1 hl x hx (by omega) o2 (by omega)
    refine ⟨R, (e1.and e).imp fun k hk => ?_⟩
    unfold spec_l01Cur_planes.f
    rw [hk.1, Option.bind_some]
    dsimp only
    rw [e2, Option.bind_some]
    dsimp only
    rw [if_neg c]
    exact hk.2
theorem drawBatch_ev {l : List Int} (hl : Bytes l) : ∃ R, Ev fun k => spec_DrawBatchCapped.f k l = some R := by
  obtain ⟨s, e0, o0⟩ := open_ok hl
  obtain ⟨w, a1, s1, e1, hw, o1⟩ := badWord_ev hl o0 (by omega)
  obtain ⟨R, e⟩ := planes_ev hl o1 (by omega)
  refine ⟨(w, R.1, R.2.1, R.2.2.1), (e1.and e).imp fun k hk => ?_⟩
  unfold spec_DrawBatchCapped.f
  rw [e0, Option.bind_some]
  dsimp only
  rw [hk.1, Option.bind_some]
  dsimp only
  rw [hk.2, Option.bind_some]
theorem PlanesOf_eq (l : List ByteArray) (hsz : ∀ j, j < l.length → (wd l j).size ≤ 1048576) (k : Nat) (hk : 1048576 < k) : impl_PlanesOf.f k l = some (planT l) := by
  unfold impl_PlanesOf.f
  rw [iPlanes0 l hsz k hk, Option.bind_some]
theorem plist_u (X : List Int) (p m : Nat) (hm : m ≤ 64) : Uu (plist X p m) := by
  intro x hx
  obtain ⟨i, hi, rfl⟩ := List.getElem_of_mem hx
  rw [plist_get]
  have h1 := valTo_lt X i m
  have h2 : 2 ^ m ≤ 2 ^ 64 := Nat.pow_le_pow_right (by omega) hm
  have h3 : (2 : Nat) ^ 64 = 18446744073709551616 := by decide
  rw [h3] at h2
  generalize 2 ^ m = q at *
  omega
theorem flat_u (l : List ByteArray) (m : Nat) (hm : m ≤ 64) : Uu (flat l m 0) := by
  intro x hx
  obtain ⟨i, hi, rfl⟩ := List.getElem_of_mem hx
  rw [flat_get]
  unfold flF
  rw [if_neg (by omega)]
  have h1 := valTo_lt (codes l (i / 5)) (i % 5) m
  have h2 : 2 ^ m ≤ 2 ^ 64 := Nat.pow_le_pow_right (by omega) hm
  have h3 : (2 : Nat) ^ 64 = 18446744073709551616 := by decide
  rw [h3] at h2
  generalize 2 ^ m = q at *
  omega
/-- Both distances of a word. -/
def Cv (s b : ByteArray) (v : Int) : Prop := Ev fun k => impl_Capped.f k s b = some v ∧ spec_Capped.f k s b = some v
theorem cv_some (s b : ByteArray) : ∃ v, Cv s b v := by
  obtain ⟨v, h⟩ := cap_both s b
  exact ⟨v, h.imp fun k hk => ⟨hk.2, hk.1⟩⟩
theorem bat_l0 (s : ByteArray) (W : List ByteArray) (hW : W.length ≤ 64) : ∀ (d i : Nat) (x : List Int), W.length - i = d → i ≤ W.length → x.length = i → (∀ j, j < i → Cv s (wd W j) (rd x (j : Int))) →
    ∃ R : List Int, R.length = W.length ∧ (∀ j, j < W.length → Cv s (wd W j) (rd R (j : Int))) ∧ Ev fun k => impl_BatchCapped.l0 k s x W (W.length : Int) (i : Int) = some R := by
  intro d
  induction d with
  | zero =>
    intro i x hd hi hx hc
    have e : i = W.length := by omega
    subst e
    refine ⟨x, hx, hc, Ev.from 1 fun k hk => ?_⟩
    obtain ⟨k, rfl⟩ : ∃ m, k = m + 1 := ⟨k - 1, by omega⟩
    simp only [impl_BatchCapped.l0]
    rw [if_neg (by omega)]
  | succ d ih =>
    intro i x hd hi hx hc
    obtain ⟨v, hv⟩ := cv_some s (wd W i)
    obtain ⟨R, hR, hcR, h⟩ := ih (i + 1) (x ++ [v]) (by omega) (by omega) (by rw [List.length_append, List.length_singleton]; omega) (fun j hj => by
      by_cases e : j = i
      · subst e
        have e2 : rd (x ++ [v]) (j : Int) = v := by simp [rd, ← hx]
        rw [e2]
        exact hv
      · have e2 : rd (x ++ [v]) (j : Int) = rd x (j : Int) := by
          have : j < x.length := by omega
          simp [rd, List.getElem?_append_left this]
        rw [e2]
        exact hc j (by omega))
    refine ⟨R, hR, hcR, (hv.and h).up fun k hk => ?_⟩
    simp only [impl_BatchCapped.l0]
    have hk1 : impl_Capped.f k s (rdOf ByteArray.empty W (i : Int)) = some v := hk.1.1
    rw [if_pos (by omega), if_pos (by omega), if_pos (by omega), hk1, Option.bind_some, if_pos (by omega), w_inc i (by omega)]
    exact hk.2
theorem law_l0 (s : ByteArray) (W : List ByteArray) (hW : W.length ≤ 64) (R : List Int) (hR : R.length = W.length) (hc : ∀ j, j < W.length → Cv s (wd W j) (rd R (j : Int))) : ∀ (d i : Nat), W.length - i = d → i ≤ W.length → Ev fun k => laws_FnBatch.l0 k W s R (i : Int) = some true := by
  intro d
  induction d with
  | zero =>
    intro i hd hi
    refine Ev.from 1 fun k hk => ?_
    obtain ⟨k, rfl⟩ : ∃ m, k = m + 1 := ⟨k - 1, by omega⟩
    simp only [laws_FnBatch.l0]
    rw [if_neg (by omega), hR]
    simp
  | succ d ih =>
    intro i hd hi
    refine ((hc i (by omega)).and (ih (i + 1) (by omega) (by omega))).up fun k hk => ?_
    simp only [laws_FnBatch.l0]
    have hk1 : impl_Capped.f k s (rdOf ByteArray.empty W (i : Int)) = some (rd R (i : Int)) := hk.1.1
    have hk2 : spec_Capped.f k s (rdOf ByteArray.empty W (i : Int)) = some (rd R (i : Int)) := hk.1.2
    rw [if_pos (by omega), if_neg (by omega), if_pos (by omega), if_pos (by omega), hk1, Option.bind_some, if_pos rfl, hk2, Option.bind_some, if_pos rfl, w_inc i (by omega)]
    exact hk.2
theorem same_l0 (W : List ByteArray) (hW : W.length ≤ 64) : ∀ (d i : Nat), W.length - i = d → i ≤ W.length → Ev fun k => laws_sameWords.l0 k W W (i : Int) = some true := by
  intro d
  induction d with
  | zero =>
    intro i hd hi
    refine Ev.from 1 fun k hk => ?_
    obtain ⟨k, rfl⟩ : ∃ m, k = m + 1 := ⟨k - 1, by omega⟩
    simp only [laws_sameWords.l0]
    rw [if_neg (by omega)]
  | succ d ih =>
    intro i hd hi
    refine (ih (i + 1) (by omega) (by omega)).up fun k hk => ?_
    simp only [laws_sameWords.l0]
    rw [if_pos (by omega), if_pos (by omega), if_pos (by omega), if_pos trivial, w_inc i (by omega)]
    exact hk
theorem same_eq (W : List ByteArray) (hW : W.length ≤ 64) : Ev fun k => laws_sameWords.f k W W = some true := by
  refine (same_l0 W hW W.length 0 (by omega) (by omega)).imp fun k hk => ?_
  unfold laws_sameWords.f
  rw [if_pos rfl]
  exact hk
theorem round_ok (U : List ByteArray) (h64 : U.length ≤ 64) (ha : allW U U.length = true) : okP (U.length : Int) (plist (lensL U) 6 U.length) (flat U U.length 0) = true := by
  unfold okP
  rw [decide_eq_true_iff, Int.toNat_natCast, rec_s U ha]
  refine ⟨by omega, by omega, plist_len _ _ _, flat_len _ _ _, ?_⟩
  unfold planT
  rw [if_pos ⟨h64, ha⟩]
theorem bat_ev (s : ByteArray) (U : List ByteArray) (h64 : U.length ≤ 64) (n : Int) (A B : List Int) (hw : Ev fun k => impl_planesWords.f k n A B = some (U, true)) :
    ∃ R : List Int, ((s.size : Int) > 32 → R = []) ∧ (¬ (s.size : Int) > 32 → R.length = U.length ∧ ∀ j, j < U.length → Cv s (wd U j) (rd R (j : Int))) ∧ Ev fun k => impl_BatchCapped.f k s n A B = some R := by
  by_cases c : (s.size : Int) > 32
  · refine ⟨[], fun _ => rfl, fun h => absurd c h, (hw.and (Ev.from (P := fun k => 1 ≤ k) 1 fun k hk => hk)).imp fun k hk => ?_⟩
    obtain ⟨hk, h1⟩ := hk
    obtain ⟨k, rfl⟩ : ∃ m, k = m + 1 := ⟨k - 1, by omega⟩
    unfold impl_BatchCapped.f
    rw [hk, Option.bind_some]
    dsimp only
    rw [if_pos rfl, decide_eq_true c]
    simp only [impl_BatchCapped.j0]
    rw [if_pos trivial]
  · obtain ⟨R, hR, hc, h⟩ := bat_l0 s U h64 U.length 0 [] (by omega) (by omega) rfl (fun j hj => by omega)
    have hj : Ev fun k => impl_BatchCapped.j0 k s U false = some R := by
      refine h.up fun k hk => ?_
      simp only [impl_BatchCapped.j0]
      rw [if_neg (by simp)]
      exact hk
    refine ⟨R, fun h => absurd h c, fun _ => ⟨hR, hc⟩, (hw.and hj).imp fun k hk => ?_⟩
    unfold impl_BatchCapped.f
    rw [hk.1, Option.bind_some]
    dsimp only
    rw [if_pos rfl, decide_eq_false c]
    exact hk.2
theorem j0_ev (p : ByteArray) (U : List ByteArray) (h64 : U.length ≤ 64) (ha : allW U U.length = true) : Ev fun k => laws_FnBatch.j0 k U p true true false (U.length : Int) (plist (lensL U) 6 U.length) (flat U U.length 0) = some true := by
  have hA := plist_u (lensL U) 6 U.length h64
  have hB := flat_u U U.length h64
  have hw := iWords (U.length : Int) _ _ hA hB
  have hok := round_ok U h64 ha
  have e : wordsI (U.length : Int) (plist (lensL U) 6 U.length) (flat U U.length 0) = (U, true) := by
    unfold wordsI
    rw [if_pos hok, Int.toNat_natCast, rec_s U ha]
  rw [e] at hw
  clear hok e hA hB
  generalize plist (lensL U) 6 U.length = A at *
  generalize flat U U.length 0 = B at *
  generalize (U.length : Int) = n at *
  obtain ⟨R, h1, h2, hb⟩ := bat_ev p U h64 n A B hw
  have hj1 : Ev fun k => laws_FnBatch.j1 k U p false n A B = some true := by
    by_cases c : (p.size : Int) > 32
    · obtain rfl := h1 c
      refine hb.up fun k hk => ?_
      simp only [laws_FnBatch.j1]
      rw [if_neg (by simp), hk, Option.bind_some, if_pos c]
      rfl
    · obtain ⟨hR, hc⟩ := h2 c
      refine (hb.and (law_l0 p U h64 R hR hc U.length 0 (by omega) (by omega))).up fun k hk => ?_
      simp only [laws_FnBatch.j1]
      rw [if_neg (by simp), hk.1, Option.bind_some, if_neg c]
      exact hk.2
  refine ((hw.and (same_eq U h64)).and hj1).up fun k hk => ?_
  simp only [laws_FnBatch.j0]
  rw [if_neg (by simp)]
  unfold impl_PlanesWords.f impl_PlanesOk.f
  rw [hk.1.1, Option.bind_some, Option.bind_some]
  dsimp only
  rw [hk.1.2, Option.bind_some, if_pos rfl, Option.bind_some]
  exact hk.2
theorem FnBatch : laws_FnBatch.Pure := by
  intro l0 hlen hsz hwf
  by_cases c : (l0.length : Int) > 1048576
  · refine ⟨0, ?_⟩
    unfold laws_FnBatch.f laws_big.f
    rw [Option.bind_some, decide_eq_true c, if_pos rfl]
  · have hl : Bytes l0 := bytes_of (by omega) hwf
    obtain ⟨U, hU, hUs⟩ := drawPlanesOf_ev hl
    obtain ⟨Q, hQ⟩ := drawBatch_ev hl
    have hsz : ∀ j, j < U.length → (wd U j).size ≤ 1048576 := fun j hj => by rw [wd_get U j hj]; have := hUs U[j] (List.getElem_mem hj); omega
    have hS := sPlanes U hsz
    have hI : Ev fun k => impl_PlanesOf.f k U = some (planT U) := Ev.from 1048577 fun k hk => PlanesOf_eq U hsz k (by omega)
    have key : Ev fun k => laws_FnBatch.j0 k U Q.1 (planT U).2.2.2 (planT U).2.2.2 (!(planT U).2.2.2) (planT U).1 (planT U).2.1 (planT U).2.2.1 = some true := by
      by_cases d : U.length ≤ 64 ∧ allW U U.length = true
      · have e : planT U = ((U.length : Int), plist (lensL U) 6 U.length, flat U U.length 0, true) := by
          unfold planT
          rw [if_pos d]
        rw [e]
        exact j0_ev Q.1 U d.1 d.2
      · have e : planT U = (0, ([] : List Int), ([] : List Int), false) := by
          unfold planT
          rw [if_neg d]
        rw [e]
        refine Ev.from 1 fun k hk => ?_
        obtain ⟨k, rfl⟩ : ∃ m, k = m + 1 := ⟨k - 1, by omega⟩
        simp only [laws_FnBatch.j0]
        rfl
    obtain ⟨K, h⟩ := (((hU.and hQ).and hS).and hI).and key
    have hk := h K (Nat.le_refl _)
    refine ⟨K, ?_⟩
    unfold laws_FnBatch.f laws_big.f
    rw [Option.bind_some, decide_eq_false c, if_neg (by simp), hk.1.1.1.1, Option.bind_some, hk.1.1.1.2, Option.bind_some, hk.1.1.2, Option.bind_some, hk.1.2, Option.bind_some]
    rw [if_neg (by simp)]
    exact hk.2

end Go.Proofs.Ytljmhhadclgegaa.Pure

/- For every list of words the planes of the program and of the specification agree, and marks in the one leave the other unchanged. -/
import Derived.Test.YtljmhhadclgegaaOpenFnExactPlanesOf
import Derived.Laws.BitsAllLaws
namespace Go.Proofs.Ytljmhhadclgegaa.Pure
open Go.RowKit Go.Proofs.Ytljmhhadclgegaa.OpenFnExactPlanesOf Go.Proofs.Ytljmhhadclgegaa.RowOpen Go.Proofs.Ytljmhhadclgegaa.PFnExactPlanesOf Go.Proofs.YtljmhhadclgegaaW.PrintWords Go.Proofs.YtljmhhadclgegaaW.PrintLast Go.Proofs.YtljmhhadclgegaaW.PrintMore
set_option linter.unusedVariables false
set_option linter.unusedSimpArgs false

def Ev (P : Nat → Prop) : Prop := ∃ K, ∀ k, K ≤ k → P k
theorem Ev.up {P Q : Nat → Prop} (h : Ev P) (f : ∀ k, P k → Q (k + 1)) : Ev Q := by
  obtain ⟨K, h⟩ := h
  exact ⟨K + 1, fun k hk => by
    obtain ⟨m, rfl⟩ : ∃ m, k = m + 1 := ⟨k - 1, by omega⟩
    exact f m (h m (by omega))⟩
theorem Ev.and {P Q : Nat → Prop} (h : Ev P) (h' : Ev Q) : Ev fun k => P k ∧ Q k := by
  obtain ⟨K, h⟩ := h
  obtain ⟨K', h'⟩ := h'
  exact ⟨K + K', fun k hk => ⟨h k (by omega), h' k (by omega)⟩⟩
theorem Ev.imp {P Q : Nat → Prop} (h : Ev P) (f : ∀ k, P k → Q k) : Ev Q := by
  obtain ⟨K, h⟩ := h
  exact ⟨K, fun k hk => f k (h k hk)⟩
theorem Ev.from {P : Nat → Prop} (K : Nat) (h : ∀ k, K ≤ k → P k) : Ev P := ⟨K, h⟩
theorem w_up (n : Nat) (h : n ≤ 2000000) : wrap64 (((n + 1 : Nat) : Int) - 1) = (n : Int) := by unfold wrap64; omega
theorem w_inc (n : Nat) (h : n ≤ 2000000) : wrap64 ((n : Int) + 1) = ((n + 1 : Nat) : Int) := by unfold wrap64; omega
theorem w_half (y : Nat) (h : y < 18446744073709551616) : wrap64 ((y / 2 : Nat) : Int) = ((y / 2 : Nat) : Int) := by unfold wrap64; omega
theorem w_tw (r : Nat) (h : 2 * r ≤ 9223372036854775808) : IntKind.u64.wrap (2 * (r : Int)) = ((2 * r : Nat) : Int) := by rw [IntKind.wrap_u64]; omega
theorem w_sum (a b : Nat) (h : a ≤ b) (hb : b ≤ 9223372036854775808) (h2 : a < b ∨ a < b := by omega) : IntKind.u64.wrap ((a : Int) + (b : Int)) = ((a + b : Nat) : Int) := by rw [IntKind.wrap_u64]; omega
def two64 : Nat := 18446744073709551616
def Uu (l : List Int) : Prop := ∀ x, x ∈ l → 0 ≤ x ∧ x < 18446744073709551616
/-- Plane k of a number, as a natural number. -/
def pl (l : List Int) (k : Nat) : Nat := (rd l (k : Int)).toNat
theorem rd_pl (l : List Int) (h : Uu l) (k : Nat) : rd l (k : Int) = ((pl l k : Nat) : Int) ∧ pl l k < 18446744073709551616 := by
  by_cases c : k < l.length
  · have e : rd l (k : Int) = l[k] := by simp [rd, c]
    have := h l[k] (List.getElem_mem _)
    unfold pl
    rw [e]
    omega
  · have e : rd l (k : Int) = 0 := by simp [rd, List.getElem?_eq_none (Nat.le_of_not_lt c)]
    unfold pl
    rw [e]
    omega
theorem tb (v j : Nat) : v.testBit j = decide (v / 2 ^ j % 2 = 1) := Nat.testBit_eq_decide_div_mod_eq
theorem addpow (x i k : Nat) (h : x < 2 ^ i) : (x + 2 ^ i).testBit k = (decide (k = i) || x.testBit k) := by
  rw [Nat.add_comm]
  rcases Nat.lt_trichotomy k i with c | c | c
  · rw [Nat.testBit_two_pow_add_gt c, decide_eq_false (by omega)]; rfl
  · subst c
    rw [Nat.testBit_two_pow_add_eq, Nat.testBit_lt_two_pow h]; simp
  · have h1 : 2 ^ i + x < 2 ^ k := by
      have : 2 ^ (i + 1) ≤ 2 ^ k := Nat.pow_le_pow_right (by omega) (by omega)
      rw [Nat.pow_succ] at this
      omega
    have h2 : x < 2 ^ k := by omega
    rw [Nat.testBit_lt_two_pow h1, Nat.testBit_lt_two_pow h2, decide_eq_false (by omega)]; rfl
/-- The number of lane j: its lowest i planes. -/
def valTo (l : List Int) (j : Nat) : Nat → Nat
  | 0 => 0
  | i + 1 => if (pl l i).testBit j = true then valTo l j i + 2 ^ i else valTo l j i
theorem valTo_lt (l : List Int) (j : Nat) : ∀ i, valTo l j i < 2 ^ i
  | 0 => by simp [valTo]
  | i + 1 => by
    have := valTo_lt l j i
    unfold valTo
    rw [Nat.pow_succ]
    split <;> omega
theorem valTo_bit (l : List Int) (j k : Nat) : ∀ i, (valTo l j i).testBit k = (decide (k < i) && (pl l k).testBit j)
  | 0 => by simp [valTo]
  | i + 1 => by
    have h := valTo_bit l j k i
    unfold valTo
    by_cases c : (pl l i).testBit j = true
    · rw [if_pos c, addpow _ _ _ (valTo_lt l j i), h]
      by_cases e : k = i
      · subst e; simp [c]
      · have : decide (k < i + 1) = decide (k < i) := by simp; omega
        rw [this, decide_eq_false e]; rfl
    · rw [if_neg c, h]
      by_cases e : k = i
      · subst e; simp [Bool.eq_false_iff.2 c]
      · have : decide (k < i + 1) = decide (k < i) := by simp; omega
        rw [this]
theorem pow_u0 : ∀ (n k r : Nat), n < k → n ≤ 63 → r * 2 ^ n ≤ 9223372036854775808 → 1 ≤ r → spec_l06Power.l0 k (n : Int) (r : Int) = some ((r * 2 ^ n : Nat) : Int)
  | 0, k, r, hk, _, _, _ => by
    obtain ⟨k, rfl⟩ : ∃ m, k = m + 1 := ⟨k - 1, by omega⟩
    simp [spec_l06Power.l0]
  | n + 1, k, r, hk, hn, h, hr => by
    obtain ⟨k, rfl⟩ : ∃ m, k = m + 1 := ⟨k - 1, by omega⟩
    have e : r * 2 ^ (n + 1) = 2 * r * 2 ^ n := by rw [Nat.pow_succ, Nat.mul_comm 2 r, Nat.mul_assoc, Nat.mul_comm 2 (2 ^ n)]
    have hle : 2 * r ≤ 2 * r * 2 ^ n := Nat.le_mul_of_pos_right _ (Nat.two_pow_pos n)
    rw [e] at h ⊢
    have hle2 : 2 * r ≤ 9223372036854775808 := Nat.le_trans hle h
    simp only [spec_l06Power.l0]
    rw [if_pos (by omega), w_up n (by omega), w_tw r hle2]
    exact pow_u0 n k (2 * r) (by omega) (by omega) h (by omega)
theorem pow_u (n k : Nat) (hn : n ≤ 63) (hk : n < k) : spec_l06Power.f k (n : Int) = some ((2 ^ n : Nat) : Int) := by
  have hp : 2 ^ n ≤ 9223372036854775808 := Nat.le_trans (Nat.pow_le_pow_right (by omega) hn) (by decide)
  unfold spec_l06Power.f
  have := pow_u0 n k 1 hk hn (by omega) (by omega)
  simpa using this
/-- The planes of a list's first m numbers. -/
def plist (X : List Int) (p m : Nat) : List Int := (List.range p).map fun (k : Nat) => ((valTo X k m : Nat) : Int)
theorem plist_len (X : List Int) (p m : Nat) : (plist X p m).length = p := by simp [plist]
theorem plist_get (X : List Int) (p m i : Nat) (h : i < (plist X p m).length) : (plist X p m)[i] = ((valTo X i m : Nat) : Int) := by simp [plist]
theorem put_l1 (X : List Int) (hu : Uu X) (hX : X.length ≤ 64) (p : Nat) (hp : p ≤ 64) (m : Nat) (hm : m < X.length) (r : List Int) (tail : Ev fun k => spec_l07Put.l0 k X (p : Int) (plist X p (m + 1)) ((m + 1 : Nat) : Int) = some r) :
    ∀ (d i : Nat) (l : List Int), p - i = d → i ≤ p → l.length = p → l.take i = (plist X p (m + 1)).take i → l.drop i = (plist X p m).drop i → Ev fun k => spec_l07Put.l1 k X (p : Int) l (m : Int) ((pl X m / 2 ^ i : Nat) : Int) (i : Int) = some r := by
  intro d
  induction d with
  | zero =>
    intro i l hd hi hl h1 h2
    have e : i = p := by omega
    subst e
    rw [List.take_of_length_le (by omega), List.take_of_length_le (by rw [plist_len]; omega)] at h1
    subst h1
    refine tail.up fun k hk => ?_
    simp only [spec_l07Put.l1]
    rw [if_neg (by omega), w_inc m (by omega)]
    exact hk
  | succ d ih =>
    intro i l hd hi hl h1 h2
    have hlt : i < p := by omega
    have hp1 : i < (plist X p m).length := by rw [plist_len]; exact hlt
    have hp2 : i < (plist X p (m + 1)).length := by rw [plist_len]; exact hlt
    have hcur : l[i]'(by omega) = ((valTo X i m : Nat) : Int) := by
      have := congrArg (fun z => z[0]?) h2
      simp only [List.getElem?_drop, Nat.add_zero] at this
      rw [List.getElem?_eq_getElem (by omega), List.getElem?_eq_getElem hp1, plist_get] at this
      exact Option.some.inj this
    have hdr : l.drop (i + 1) = (plist X p m).drop (i + 1) := by
      have := congrArg (List.drop 1) h2
      simpa [List.drop_drop, Nat.add_comm] using this
    have hv := rd_pl X hu m
    have hq : pl X m / 2 ^ i ≤ pl X m := Nat.div_le_self _ _
    have e2 : pl X m / 2 ^ (i + 1) = pl X m / 2 ^ i / 2 := by rw [Nat.pow_succ, Nat.div_div_eq_div_mul]
    have hlow := valTo_lt X i m
    have h64 : 2 ^ m ≤ 9223372036854775808 := Nat.le_trans (Nat.pow_le_pow_right (by omega) (show m ≤ 63 by omega)) (by decide)
    by_cases c : (pl X m).testBit i = true
    · have hodd : pl X m / 2 ^ i % 2 = 1 := by rw [tb] at c; exact of_decide_eq_true c
      have hnew : valTo X i (m + 1) = valTo X i m + 2 ^ m := by rw [valTo, if_pos c]
      have ht : (l.set i ((valTo X i (m + 1) : Nat) : Int)).take (i + 1) = (plist X p (m + 1)).take (i + 1) := by
        rw [List.take_add_one, List.take_add_one, List.take_set_of_le (Nat.le_refl _), h1, List.getElem?_eq_getElem hp2, plist_get]
        simp [hl, hlt]
      refine ((ih (i + 1) (l.set i ((valTo X i (m + 1) : Nat) : Int)) (by omega) (by omega) (by simpa using hl) ht (by rw [List.drop_set_of_lt (by omega)]; exact hdr)).and (Ev.from (P := fun k => m < k) (m + 1) fun k hk => hk)).up fun k hk => ?_
      obtain ⟨hk, hk2⟩ := hk
      rw [e2] at hk
      simp only [spec_l07Put.l1]
      have er : rd l (i : Int) = ((valTo X i m : Nat) : Int) := by
        rw [← hcur]; simp [rd, hl, hlt]
      rw [er, pow_u m k (by omega) hk2]
      generalize pl X m / 2 ^ i = y at hk hq hodd ⊢
      rw [if_pos (by omega), if_pos (by rw [show Int.tmod (y : Int) 2 = ((y % 2 : Nat) : Int) from rfl, hodd]; rfl), if_pos (by omega), if_pos (by omega)]
      simp only [Option.bind_some]
      rw [Int.toNat_natCast, w_sum (valTo X i m) (2 ^ m) (by omega) h64, ← hnew, show Int.tdiv (y : Int) 2 = ((y / 2 : Nat) : Int) from rfl, w_half y (by omega), w_inc i (by omega)]
      exact hk
    · have heven : ¬ pl X m / 2 ^ i % 2 = 1 := by rw [tb] at c; intro h; exact c (decide_eq_true h)
      have hnew : valTo X i (m + 1) = valTo X i m := by rw [valTo, if_neg c]
      have ht : l.take (i + 1) = (plist X p (m + 1)).take (i + 1) := by
        rw [List.take_add_one, List.take_add_one, h1, List.getElem?_eq_getElem hp2, plist_get, List.getElem?_eq_getElem (by omega), hcur, hnew]
      refine (ih (i + 1) l (by omega) (by omega) hl ht hdr).up fun k hk => ?_
      rw [e2] at hk
      simp only [spec_l07Put.l1]
      generalize pl X m / 2 ^ i = y at hk hq heven ⊢
      rw [if_pos (by omega), if_neg (by rw [show Int.tmod (y : Int) 2 = ((y % 2 : Nat) : Int) from rfl]; omega), show Int.tdiv (y : Int) 2 = ((y / 2 : Nat) : Int) from rfl, w_half y (by omega), w_inc i (by omega)]
      exact hk
theorem put_l0 (X : List Int) (hu : Uu X) (hX : X.length ≤ 64) (p : Nat) (hp : p ≤ 64) : ∀ (d m : Nat), X.length - m = d → m ≤ X.length → Ev fun k => spec_l07Put.l0 k X (p : Int) (plist X p m) (m : Int) = some (plist X p X.length) := by
  intro d
  induction d with
  | zero =>
    intro m hd hm
    have e : m = X.length := by omega
    refine Ev.from 1 fun k hk => ?_
    obtain ⟨k, rfl⟩ : ∃ m, k = m + 1 := ⟨k - 1, by omega⟩
    simp only [spec_l07Put.l0]
    rw [if_neg (by omega), e]
  | succ d ih =>
    intro m hd hm
    have hlt : m < X.length := by omega
    have l1 := put_l1 X hu hX p hp m hlt _ (ih (m + 1) (by omega) (by omega)) p 0 (plist X p m) (by omega) (by omega) (plist_len X p m) rfl rfl
    refine l1.up fun k hk => ?_
    simp only [spec_l07Put.l0]
    rw [if_pos (by omega), if_pos (by omega), (rd_pl X hu m).1]
    rw [Nat.pow_zero, Nat.div_one] at hk
    exact hk
theorem put_eq (X : List Int) (hu : Uu X) (hX : X.length ≤ 64) (p : Nat) (hp : p ≤ 64) : Ev fun k => spec_l07Put.f k X (p : Int) = some (plist X p X.length) := by
  refine (put_l0 X hu hX p hp X.length 0 (by omega) (by omega)).imp fun k hk => ?_
  unfold spec_l07Put.f
  rw [if_pos (by omega), if_pos (by omega), Int.toNat_natCast]
  have e : plist X p 0 = List.replicate p 0 := by
    apply List.ext_getElem
    · simp [plist]
    · intro i h1 h2
      rw [plist_get]; simp [valTo]
  rw [e] at hk
  exact hk
theorem and1 (y : Nat) (h : y < 4294967296) : Go.bits .and .i64 (y : Int) 1 = ((y % 2 : Nat) : Int) := by
  have h1 : (BitVec.ofInt 64 (y : Int)).toNat = y := by
    rw [BitVec.ofInt_natCast, BitVec.toNat_ofNat]; exact Nat.mod_eq_of_lt (by omega)
  have h2 : (BitVec.ofInt 64 (1 : Int)).toNat = 1 := by decide
  show IntKind.i64.wrap ((BitVec.ofInt 64 (y : Int) &&& BitVec.ofInt 64 (1 : Int)).toNat : Int) = _
  rw [BitVec.toNat_and, h1, h2, Nat.and_one_is_mod, IntKind.wrap_i64]
  omega
theorem shr_n (x y : Nat) (h : y ≤ 64) : shr .i64 (x : Int) (y : Int) = ((x / 2 ^ y : Nat) : Int) := by
  unfold shr
  rw [Int.toNat_natCast, show min y IntKind.i64.bits = y from Nat.min_eq_left h]
  rw [Int.natCast_ediv, Int.natCast_pow]; rfl
theorem or_pow (x m : Nat) (h : x < 2 ^ m) : x ||| 2 ^ m = x + 2 ^ m := by
  apply Nat.eq_of_testBit_eq
  intro k
  rw [addpow x m k h, Nat.testBit_or, Nat.testBit_two_pow]
  by_cases e : k = m
  · subst e; simp
  · rw [decide_eq_false e, decide_eq_false (fun h => e h.symm)]; simp
theorem shl_b (b m : Nat) (hb : b ≤ 1) (hm : m ≤ 63) : shl .u64 (IntKind.u64.wrap (b : Int)) (m : Int) = ((b * 2 ^ m : Nat) : Int) := by
  have hp : 2 ^ m ≤ 9223372036854775808 := Nat.le_trans (Nat.pow_le_pow_right (by omega) hm) (by decide)
  have e1 : IntKind.u64.wrap (b : Int) = (b : Int) := by rw [IntKind.wrap_u64]; omega
  unfold shl
  rw [e1, Int.toNat_natCast, show min m IntKind.u64.bits = m from Nat.min_eq_left (show m ≤ 64 by omega), IntKind.wrap_u64]
  have e2 : (b : Int) * 2 ^ m = ((b * 2 ^ m : Nat) : Int) := by rw [Int.natCast_mul, Int.natCast_pow]; rfl
  rw [e2]
  have hle : b * 2 ^ m ≤ 1 * 2 ^ m := Nat.mul_le_mul_right _ hb
  generalize b * 2 ^ m = z at hle ⊢
  omega
/-- One lane more: what setLane makes of the planes. -/
theorem lane_l0 (X : List Int) (p : Nat) (hp : p ≤ 160) (m : Nat) (hm : m < 64) (n : Nat) (hn : n < 65536) (hX : pl X m = n) : ∀ (d k i : Nat) (l : List Int), p - i = d → i ≤ p → d < k → l.length = p → p ≤ 64 → l.take i = (plist X p (m + 1)).take i → l.drop i = (plist X p m).drop i → impl_setLane.l0 k l (m : Int) (n : Int) (p : Int) (i : Int) = some (plist X p (m + 1)) := by
  intro d
  induction d with
  | zero =>
    intro k i l hd hi hk hl _ h1 h2
    obtain ⟨k, rfl⟩ : ∃ m, k = m + 1 := ⟨k - 1, by omega⟩
    rw [List.take_of_length_le (by omega), List.take_of_length_le (by rw [plist_len]; omega)] at h1
    simp only [impl_setLane.l0]
    rw [if_neg (by omega), h1]
  | succ d ih =>
    intro k i l hd hi hk hl h64 h1 h2
    obtain ⟨k, rfl⟩ : ∃ m, k = m + 1 := ⟨k - 1, by omega⟩
    have hlt : i < p := by omega
    have hp1 : i < (plist X p m).length := by rw [plist_len]; exact hlt
    have hp2 : i < (plist X p (m + 1)).length := by rw [plist_len]; exact hlt
    have hcur : l[i]'(by omega) = ((valTo X i m : Nat) : Int) := by
      have := congrArg (fun z => z[0]?) h2
      simp only [List.getElem?_drop, Nat.add_zero] at this
      rw [List.getElem?_eq_getElem (by omega), List.getElem?_eq_getElem hp1, plist_get] at this
      exact Option.some.inj this
    have hdr : l.drop (i + 1) = (plist X p m).drop (i + 1) := by
      have := congrArg (List.drop 1) h2
      simpa [List.drop_drop, Nat.add_comm] using this
    have er : rd l (i : Int) = ((valTo X i m : Nat) : Int) := by
      rw [← hcur]; simp [rd, hl, hlt]
    have hq : n / 2 ^ i ≤ n := Nat.div_le_self _ _
    have hv := valTo_lt X i m
    have hp63 : 2 ^ m ≤ 9223372036854775808 := Nat.le_trans (Nat.pow_le_pow_right (by omega) (show m ≤ 63 by omega)) (by decide)
    have hnew : ((valTo X i (m + 1) : Nat) : Int) = Go.bits .or .u64 (rd l (i : Int)) (shl .u64 (IntKind.u64.wrap (Go.bits .and .i64 (shr .i64 (n : Int) (i : Int)) 1)) (m : Int)) := by
      rw [er, shr_n n i (by omega), and1 _ (by omega), shl_b _ m (by omega) (by omega)]
      rw [show valTo X i (m + 1) = (if (pl X m).testBit i = true then valTo X i m + 2 ^ m else valTo X i m) from rfl, hX, tb]
      by_cases c : n / 2 ^ i % 2 = 1
      · rw [decide_eq_true c, if_pos rfl, c, Nat.one_mul, bits_or_u64_nat _ _ (by omega) (by omega), or_pow _ _ hv]
      · have c0 : n / 2 ^ i % 2 = 0 := by omega
        rw [decide_eq_false c, if_neg (by decide), c0, Nat.zero_mul, bits_or_u64_nat _ _ (by omega) (by omega), Nat.or_zero]
    simp only [impl_setLane.l0]
    rw [if_pos (by omega), if_pos (by omega), if_pos (by omega), if_pos (by omega), Int.toNat_natCast, ← hnew, w_inc i (by omega)]
    refine ih k (i + 1) _ (by omega) (by omega) (by omega) (by simpa using hl) h64 ?_ (by rw [List.drop_set_of_lt (by omega)]; exact hdr)
    rw [List.take_add_one, List.take_add_one, List.take_set_of_le (Nat.le_refl _), h1, List.getElem?_eq_getElem hp2, plist_get]
    simp [hl, hlt]
theorem lane_eq (X : List Int) (p : Nat) (h64 : p ≤ 64) (m : Nat) (hm : m < 64) (n : Nat) (hn : n < 65536) (hX : pl X m = n) (k : Nat) (hk : p < k) : impl_setLane.f k (plist X p m) (m : Int) (n : Int) = some (plist X p (m + 1)) := by
  unfold impl_setLane.f
  rw [plist_len]
  exact lane_l0 X p (by omega) m hm n hn hX p k 0 (plist X p m) (by omega) (by omega) hk (plist_len X p m) h64 rfl rfl
def letB (c : Int) : Bool := decide (97 ≤ c) && decide (c ≤ 122)
/-- Are the d bytes from i on letters? -/
def lets (s : ByteArray) : Nat → Nat → Bool
  | 0, _ => true
  | d + 1, i => letB (bt s (i : Int)) && lets s d (i + 1)
theorem lets_succ (s : ByteArray) (d i : Nat) : lets s (d + 1) i = (letB (bt s (i : Int)) && lets s d (i + 1)) := rfl
def wordB (s : ByteArray) : Bool := decide (1 ≤ s.size) && (decide (s.size ≤ 32) && lets s s.size 0)
theorem wr1w (i : Nat) (h : i ≤ 1048576) : wrap64 ((i : Int) + 1) = ((i + 1 : Nat) : Int) := by unfold wrap64; omega
theorem wordOk_l0 (s : ByteArray) (hs : s.size ≤ 1048576) : ∀ (d k i : Nat), s.size = i + d → d < k → spec_WordOk.l0 k s (i : Int) = some (lets s d i) := by
  intro d
  induction d with
  | zero =>
    intro k i hi hk
    obtain ⟨k, rfl⟩ : ∃ m, k = m + 1 := ⟨k - 1, by omega⟩
    simp only [spec_WordOk.l0]
    rw [if_neg (by omega)]; rfl
  | succ d ih =>
    intro k i hi hk
    obtain ⟨k, rfl⟩ : ∃ m, k = m + 1 := ⟨k - 1, by omega⟩
    simp only [spec_WordOk.l0]
    rw [if_pos (by omega), if_pos (by omega), wr1w i (by omega), ih k (i + 1) (by omega) (by omega)]
    rw [lets_succ]
    unfold letB
    by_cases c1 : bt s (i : Int) < 97
    · rw [if_pos c1, decide_eq_false (by omega)]; rfl
    · rw [if_neg c1, decide_eq_true (show 97 ≤ bt s (i : Int) by omega)]
      by_cases c2 : bt s (i : Int) > 122
      · rw [if_pos c2, decide_eq_false (by omega)]; rfl
      · rw [if_neg c2, decide_eq_true (show bt s (i : Int) ≤ 122 by omega)]; rfl
theorem wordOk_eq (s : ByteArray) (hs : s.size ≤ 1048576) (k : Nat) (hk : s.size + 1 < k) : spec_WordOk.f k s = some (wordB s) := by
  obtain ⟨k, rfl⟩ : ∃ m, k = m + 1 := ⟨k - 1, by omega⟩
  unfold spec_WordOk.f wordB
  by_cases c1 : (s.size : Int) < 1
  · rw [if_pos c1, decide_eq_false (by omega)]
    simp [spec_WordOk.j0]
  · rw [if_neg c1, decide_eq_true (show 1 ≤ s.size by omega)]
    by_cases c2 : (s.size : Int) > 32
    · rw [decide_eq_true c2, decide_eq_false (show ¬ s.size ≤ 32 by omega)]
      simp [spec_WordOk.j0]
    · rw [decide_eq_false c2, decide_eq_true (show s.size ≤ 32 by omega)]
      simp only [spec_WordOk.j0]
      have := wordOk_l0 s hs s.size k 0 (by omega) (by omega)
      rw [show ((0 : Nat) : Int) = 0 from rfl] at this
      rw [if_neg (by decide), this]; rfl
theorem within_eq (a b c : Int) : impl_within.f a b c = some (decide (b ≤ a) && decide (a ≤ c)) := by
  unfold impl_within.f
  by_cases c1 : a ≥ b
  · rw [if_pos c1, decide_eq_true (show b ≤ a from c1)]; rfl
  · rw [if_neg c1, decide_eq_false (show ¬ b ≤ a from c1)]; rfl
theorem isWord_l0 (s : ByteArray) (hs : s.size ≤ 1048576) : ∀ (d k i : Nat), s.size = i + d → d < k → impl_isWord.l0 k s (s.size : Int) (i : Int) = some (lets s d i && (decide (1 ≤ s.size) && decide (s.size ≤ 32))) := by
  intro d
  induction d with
  | zero =>
    intro k i hi hk
    obtain ⟨k, rfl⟩ : ∃ m, k = m + 1 := ⟨k - 1, by omega⟩
    simp only [impl_isWord.l0]
    rw [if_neg (by omega), within_eq]
    simp only [Option.bind_some, lets, Bool.true_and]
    congr 2
    · exact decide_eq_decide.2 (by omega)
    · exact decide_eq_decide.2 (by omega)
  | succ d ih =>
    intro k i hi hk
    obtain ⟨k, rfl⟩ : ∃ m, k = m + 1 := ⟨k - 1, by omega⟩
    simp only [impl_isWord.l0]
    rw [if_pos (by omega), if_pos (by omega), if_pos (by omega), wr1w i (by omega), ih k (i + 1) (by omega) (by omega)]
    rw [lets_succ]
    unfold letB
    by_cases c1 : bt s (i : Int) < 97
    · rw [if_pos c1, decide_eq_false (by omega)]; rfl
    · rw [if_neg c1, decide_eq_true (show 97 ≤ bt s (i : Int) by omega)]
      by_cases c2 : bt s (i : Int) > 122
      · rw [if_pos c2, decide_eq_false (by omega)]; rfl
      · rw [if_neg c2, decide_eq_true (show bt s (i : Int) ≤ 122 by omega)]; rfl
theorem isWord_eq (s : ByteArray) (hs : s.size ≤ 1048576) (k : Nat) (hk : s.size < k) : impl_isWord.f k s = some (wordB s) := by
  unfold impl_isWord.f wordB
  have := isWord_l0 s hs s.size k 0 (by omega) hk
  rw [show ((0 : Nat) : Int) = 0 from rfl] at this
  rw [this]
  congr 1
  cases lets s s.size 0 <;> cases decide (1 ≤ s.size) <;> cases decide (s.size ≤ 32) <;> rfl
theorem take_set_StringS (x l : List ByteArray) (i : Nat) (hi : i < l.length) (hx : x.length = l.length) (h : x.take i = l.take i) : (x.set i (rdOf ByteArray.empty l (i : Int))).take (i + 1) = l.take (i + 1) := by
  have hr : rdOf ByteArray.empty l (i : Int) = l[i] := by simp [rdOf, hi]
  rw [hr, List.take_add_one, List.take_add_one, List.take_set_of_le (Nat.le_refl _), h]
  simp [hi, hx]
theorem toStringS_l0 (l : List ByteArray) (hl : l.length ≤ 1048576) : ∀ (d k i : Nat) (x : List ByteArray), x.length = l.length → i ≤ l.length → l.length - i = d → d < k → x.take i = l.take i → laws_toStringS.l0 k l x (i : Int) = some l := by
  intro d
  induction d with
  | zero =>
    intro k i x hx hi hd hk h
    obtain ⟨k, rfl⟩ : ∃ m, k = m + 1 := ⟨k - 1, by omega⟩
    simp only [laws_toStringS.l0]
    rw [if_neg (by omega)]
    rw [List.take_of_length_le (by omega), List.take_of_length_le (by omega)] at h
    rw [h]
  | succ d ih =>
    intro k i x hx hi hd hk h
    obtain ⟨k, rfl⟩ : ∃ m, k = m + 1 := ⟨k - 1, by omega⟩
    simp only [laws_toStringS.l0]
    rw [if_pos (by omega), if_pos (by omega), if_pos (by omega), show wrap64 ((i : Int) + 1) = ((i + 1 : Nat) : Int) from by unfold wrap64; omega, Int.toNat_natCast]
    exact ih k (i + 1) _ (by simp [hx]) (by omega) (by omega) (by omega) (take_set_StringS x l i (by omega) hx h)
theorem toStringS_eq (l : List ByteArray) (hl : l.length ≤ 1048576) (k : Nat) (hk : l.length < k) : laws_toStringS.f k l = some l := by
  unfold laws_toStringS.f
  rw [if_pos (by omega), if_pos (by omega)]
  exact toStringS_l0 l hl l.length k 0 _ (by simp) (by omega) (by omega) hk rfl
theorem eqStringS_l0 (a : List ByteArray) (ha : a.length ≤ 1048576) : ∀ (d k i : Nat), i ≤ a.length → a.length - i = d → d < k → laws_eqStringS.l0 k a a (i : Int) = some true := by
  intro d
  induction d with
  | zero =>
    intro k i hi hd hk
    obtain ⟨k, rfl⟩ : ∃ m, k = m + 1 := ⟨k - 1, by omega⟩
    simp only [laws_eqStringS.l0]
    rw [if_neg (by omega)]
  | succ d ih =>
    intro k i hi hd hk
    obtain ⟨k, rfl⟩ : ∃ m, k = m + 1 := ⟨k - 1, by omega⟩
    simp only [laws_eqStringS.l0]
    rw [if_pos (by omega), if_pos (by omega), if_pos (by omega), if_pos trivial, show wrap64 ((i : Int) + 1) = ((i + 1 : Nat) : Int) from by unfold wrap64; omega]
    exact ih k (i + 1) (by omega) (by omega) (by omega)
theorem eqStringS_eq (a : List ByteArray) (ha : a.length ≤ 1048576) (k : Nat) (hk : a.length < k) : laws_eqStringS.f k a a = some true := by
  unfold laws_eqStringS.f
  rw [if_pos rfl]
  exact eqStringS_l0 a ha a.length k 0 (by omega) (by omega) hk
theorem eqUint64S_l0 (a : List Int) (ha : a.length ≤ 1048576) : ∀ (d k i : Nat), i ≤ a.length → a.length - i = d → d < k → laws_eqUint64S.l0 k a a (i : Int) = some true := by
  intro d
  induction d with
  | zero =>
    intro k i hi hd hk
    obtain ⟨k, rfl⟩ : ∃ m, k = m + 1 := ⟨k - 1, by omega⟩
    simp only [laws_eqUint64S.l0]
    rw [if_neg (by omega)]
  | succ d ih =>
    intro k i hi hd hk
    obtain ⟨k, rfl⟩ : ∃ m, k = m + 1 := ⟨k - 1, by omega⟩
    simp only [laws_eqUint64S.l0]
    rw [if_pos (by omega), if_pos (by omega), if_pos (by omega), if_pos trivial, show wrap64 ((i : Int) + 1) = ((i + 1 : Nat) : Int) from by unfold wrap64; omega]
    exact ih k (i + 1) (by omega) (by omega) (by omega)
theorem eqUint64S_eq (a : List Int) (ha : a.length ≤ 1048576) (k : Nat) (hk : a.length < k) : laws_eqUint64S.f k a a = some true := by
  unfold laws_eqUint64S.f
  rw [if_pos rfl]
  exact eqUint64S_l0 a ha a.length k 0 (by omega) (by omega) hk
theorem markT_l0 : ∀ (d k : Nat) (n : Int) (s : ByteArray), 0 ≤ n → n ≤ 1000000000 → n < ((10 ^ d : Nat) : Int) → s.size + d ≤ 1000 → d < k → ∃ t, laws_markText.l0 k n s = some t := by
  intro d
  induction d with
  | zero =>
    intro k n s h0 h9 h1 hs hk
    obtain ⟨k, rfl⟩ : ∃ m, k = m + 1 := ⟨k - 1, by omega⟩
    simp only [laws_markText.l0]
    rw [if_neg (by simp at h1; omega), if_pos (by omega)]
    exact ⟨_, rfl⟩
  | succ d ih =>
    intro k n s h0 h9 h1 hs hk
    obtain ⟨k, rfl⟩ : ∃ m, k = m + 1 := ⟨k - 1, by omega⟩
    simp only [laws_markText.l0]
    by_cases c : n > 0
    · rw [if_pos c]
      simp only [Option.bind_some]
      have e : wrap64 (Int.tdiv n 10) = n / 10 := by
        rw [Int.tdiv_eq_ediv_of_nonneg h0]; unfold wrap64; omega
      rw [if_pos (by rw [strOfNums_size]; simp; omega), e]
      refine ih k _ _ (by omega) (by omega) ?_ ?_ (by omega)
      · rw [Nat.pow_succ] at h1; omega
      · rw [ByteArray.size_append, strOfNums_size]; simp; omega
    · rw [if_neg c, if_pos (by omega)]
      exact ⟨_, rfl⟩
def mtx (n : Int) : ByteArray := (laws_markText.f 30 n).getD (⟨#[]⟩ : ByteArray)
theorem markT_eq (n : Int) (h0 : 0 ≤ n) (h9 : n ≤ 1000000000) (k : Nat) (hk : 30 ≤ k) : laws_markText.f k n = some (mtx n) := by
  have h : ∃ t, laws_markText.f 30 n = some t := by
    unfold laws_markText.f
    by_cases c : n ≤ 0
    · rw [if_pos c]; exact ⟨_, rfl⟩
    · rw [if_neg c]
      exact markT_l0 10 30 n _ h0 h9 (by omega) (by decide) (by omega)
  obtain ⟨t, ht⟩ := h
  have e : mtx n = t := by unfold mtx; rw [ht]; rfl
  rw [e]
  exact at_rounds (g := fun k => laws_markText.f k n) (fun k => laws_markText.mono n k) hk ht
def mkU (a : Int) (n : Nat) : List Int := (List.range n).map fun (i : Nat) => a + (i : Int)
theorem mkU_length (a : Int) (n : Nat) : (mkU a n).length = n := by simp [mkU]
theorem mkU_step (a : Int) (x : List Int) (n i : Nat) (hi : i < n) (hx : x.length = n) (h : x.take i = (mkU a n).take i) : (x.set i (a + (i : Int))).take (i + 1) = (mkU a n).take (i + 1) := by
  rw [List.take_add_one, List.take_add_one, List.take_set_of_le (Nat.le_refl _), h]
  simp [hi, hx, mkU]
theorem markU_l0 (a : Int) (n : Nat) (hn : n ≤ 1048576) (ha0 : 0 ≤ a) (ha : a ≤ 4194304) : ∀ (d k i : Nat) (x : List Int), x.length = n → i ≤ n → n - i = d → d < k → x.take i = (mkU a n).take i →
    laws_markUint64S.l0 k x (a + (i : Int)) (i : Int) = some (a + (n : Int), mkU a n) := by
  intro d
  induction d with
  | zero =>
    intro k i x hx hi hd hk h
    obtain ⟨k, rfl⟩ : ∃ m, k = m + 1 := ⟨k - 1, by omega⟩
    simp only [laws_markUint64S.l0]
    rw [if_neg (by omega)]
    rw [List.take_of_length_le (by omega), List.take_of_length_le (by rw [mkU_length]; omega)] at h
    rw [h, show i = n by omega]
  | succ d ih =>
    intro k i x hx hi hd hk h
    obtain ⟨k, rfl⟩ : ∃ m, k = m + 1 := ⟨k - 1, by omega⟩
    simp only [laws_markUint64S.l0]
    rw [if_pos (by omega), if_pos (by omega), show IntKind.u64.wrap (a + (i : Int)) = a + (i : Int) from by rw [IntKind.wrap_u64]; omega, show wrap64 (a + (i : Int) + 1) = a + ((i + 1 : Nat) : Int) from by unfold wrap64; omega, show wrap64 ((i : Int) + 1) = ((i + 1 : Nat) : Int) from by unfold wrap64; omega, Int.toNat_natCast]
    exact ih k (i + 1) _ (by simp [hx]) (by omega) (by omega) (by omega) (mkU_step a x n i (by omega) hx h)
theorem markU_eq (a : Int) (l : List Int) (hl : l.length ≤ 1048576) (ha0 : 0 ≤ a) (ha : a ≤ 4194304) (k : Nat) (hk : l.length < k) : laws_markUint64S.f k l a = some (a + (l.length : Int), mkU a l.length) := by
  unfold laws_markUint64S.f
  have := markU_l0 a l.length hl ha0 ha l.length k 0 l rfl (by omega) (by omega) hk rfl
  simpa using this
theorem heldU_l0 (n : Nat) (hn : n ≤ 1048576) : ∀ (d k i : Nat), i ≤ n → n - i = d → d < k → laws_heldUint64S.l0 k (mkU 1 n) (1 + (i : Int)) (i : Int) = some (1 + (n : Int)) := by
  intro d
  induction d with
  | zero =>
    intro k i hi hd hk
    obtain ⟨k, rfl⟩ : ∃ m, k = m + 1 := ⟨k - 1, by omega⟩
    simp only [laws_heldUint64S.l0]
    rw [if_neg (by rw [mkU_length]; omega), show i = n by omega]
  | succ d ih =>
    intro k i hi hd hk
    obtain ⟨k, rfl⟩ : ∃ m, k = m + 1 := ⟨k - 1, by omega⟩
    simp only [laws_heldUint64S.l0]
    have e : rd (mkU 1 n) (i : Int) = 1 + (i : Int) := by
      have : i < n := by omega
      simp [rd, mkU, this]
    rw [if_pos (by rw [mkU_length]; omega), if_pos (by omega), show IntKind.u64.wrap (1 + (i : Int)) = 1 + (i : Int) from by rw [IntKind.wrap_u64]; omega, if_pos e, show wrap64 (1 + (i : Int) + 1) = 1 + ((i + 1 : Nat) : Int) from by unfold wrap64; omega, show wrap64 ((i : Int) + 1) = ((i + 1 : Nat) : Int) from by unfold wrap64; omega]
    exact ih k (i + 1) (by omega) (by omega) (by omega)
theorem heldU_eq (n : Nat) (hn : n ≤ 1048576) (k : Nat) (hk : n < k) : laws_heldUint64S.f k (mkU 1 n) 1 = some (1 + (n : Int)) := by
  unfold laws_heldUint64S.f
  have := heldU_l0 n hn n k 0 (by omega) (by omega) hk
  simpa using this
theorem heldU2_l0 (a n : Nat) (hn : n ≤ 1048576) (ha : a ≤ 1048576) : ∀ (d k i : Nat), i ≤ n → n - i = d → d < k → laws_heldUint64S.l0 k (mkU (a : Int) n) ((a : Int) + (i : Int)) (i : Int) = some ((a : Int) + (n : Int)) := by
  intro d
  induction d with
  | zero =>
    intro k i hi hd hk
    obtain ⟨k, rfl⟩ : ∃ m, k = m + 1 := ⟨k - 1, by omega⟩
    simp only [laws_heldUint64S.l0]
    rw [if_neg (by rw [mkU_length]; omega), show i = n by omega]
  | succ d ih =>
    intro k i hi hd hk
    obtain ⟨k, rfl⟩ : ∃ m, k = m + 1 := ⟨k - 1, by omega⟩
    simp only [laws_heldUint64S.l0]
    have e : rd (mkU (a : Int) n) (i : Int) = (a : Int) + (i : Int) := by
      have : i < n := by omega
      simp [rd, mkU, this]
    rw [if_pos (by rw [mkU_length]; omega), if_pos (by omega), show IntKind.u64.wrap ((a : Int) + (i : Int)) = (a : Int) + (i : Int) from by rw [IntKind.wrap_u64]; omega, if_pos e, show wrap64 ((a : Int) + (i : Int) + 1) = (a : Int) + ((i + 1 : Nat) : Int) from by unfold wrap64; omega, show wrap64 ((i : Int) + 1) = ((i + 1 : Nat) : Int) from by unfold wrap64; omega]
    exact ih k (i + 1) (by omega) (by omega) (by omega)
theorem heldU2_eq (a n : Nat) (hn : n ≤ 1048576) (ha : a ≤ 1048576) (k : Nat) (hk : n < k) : laws_heldUint64S.f k (mkU (a : Int) n) (a : Int) = some ((a : Int) + (n : Int)) := by
  unfold laws_heldUint64S.f
  have := heldU2_l0 a n hn ha n k 0 (by omega) (by omega) hk
  simpa using this
theorem sz_l0 (l : List ByteArray) (hw : ∀ y, y ∈ l → y.size ≤ maxLen) (hl : l.length ≤ 1048576) : ∀ (d i : Nat) (a : Int), l.length - i = d → i ≤ l.length → 0 ≤ a → a ≤ 1048576 → ∃ r : Int, (∀ k, d < k → laws_szStringS.l0 k l a (i : Int) = some r) ∧ (r < 0 ∨ (0 ≤ r ∧ ∀ j, i ≤ j → j < l.length → (rdOf ByteArray.empty l (j : Int)).size ≤ 1048576)) := by
  intro d
  induction d with
  | zero =>
    intro i a hd hi h0 h1
    refine ⟨a, fun k hk => ?_, .inr ⟨h0, fun j h2 h3 => by omega⟩⟩
    obtain ⟨k, rfl⟩ : ∃ m, k = m + 1 := ⟨k - 1, by omega⟩
    simp only [laws_szStringS.l0]
    rw [if_neg (by omega)]
  | succ d ih =>
    intro i a hd hi h0 h1
    have hlt : i < l.length := by omega
    have hm : (rdOf ByteArray.empty l (i : Int)).size ≤ 9223372036854775807 := by
      have e : rdOf ByteArray.empty l (i : Int) = l[i] := by simp [rdOf, hlt]
      rw [e]
      exact hw _ (List.getElem_mem _)
    generalize hz : (rdOf ByteArray.empty l (i : Int)).size = z at hm
    have hwr : wrap64 (a - (z : Int)) = a - (z : Int) := by unfold wrap64; omega
    by_cases c : a - (z : Int) < 0
    · refine ⟨-1, fun k hk => ?_, .inl (by omega)⟩
      obtain ⟨k, rfl⟩ : ∃ m, k = m + 1 := ⟨k - 1, by omega⟩
      simp only [laws_szStringS.l0]
      rw [if_pos (by omega), if_pos (by omega), hz, hwr, if_pos c]
    · obtain ⟨r, hr, hs⟩ := ih (i + 1) (a - (z : Int)) (by omega) (by omega) (by omega) (by omega)
      refine ⟨r, fun k hk => ?_, ?_⟩
      · obtain ⟨k, rfl⟩ : ∃ m, k = m + 1 := ⟨k - 1, by omega⟩
        simp only [laws_szStringS.l0]
        rw [if_pos (by omega), if_pos (by omega), hz, hwr, if_neg c, w_inc i (by omega)]
        exact hr k (by omega)
      · rcases hs with hs | ⟨hs, hs2⟩
        · exact .inl hs
        · refine .inr ⟨hs, fun j h2 h3 => ?_⟩
          by_cases e : j = i
          · subst e; omega
          · exact hs2 j (by omega) h3
/-- The size of a list of strings: below zero, or all is small. -/
theorem szS (l : List ByteArray) (hw : ∀ y, y ∈ l → y.size ≤ maxLen) (hl : l.length ≤ maxLen) : ∃ r : Int, (∀ k, l.length < k → laws_szStringS.f k l 1048576 = some r) ∧ (r < 0 ∨ (0 ≤ r ∧ l.length ≤ 1048576 ∧ ∀ j, j < l.length → (rdOf ByteArray.empty l (j : Int)).size ≤ 1048576)) := by
  have hl2 : l.length ≤ 9223372036854775807 := hl
  have hwr : wrap64 (1048576 - (l.length : Int)) = 1048576 - (l.length : Int) := by unfold wrap64; omega
  by_cases c : 1048576 - (l.length : Int) < 0
  · refine ⟨-1, fun k hk => ?_, .inl (by omega)⟩
    unfold laws_szStringS.f
    rw [hwr, if_pos c]
  · obtain ⟨r, hr, hs⟩ := sz_l0 l hw (by omega) l.length 0 (1048576 - (l.length : Int)) (by omega) (by omega) (by omega) (by omega)
    refine ⟨r, fun k hk => ?_, ?_⟩
    · unfold laws_szStringS.f
      rw [hwr, if_neg c]
      exact hr k hk
    · rcases hs with hs | ⟨hs, hs2⟩
      · exact .inl hs
      · exact .inr ⟨hs, by omega, fun j h3 => hs2 j (by omega) h3⟩
theorem markS_l0 (n : Nat) (hn : n ≤ 1048576) : ∀ (d k i : Nat) (x : List ByteArray), x.length = n → i ≤ n → n - i = d → d + 30 < k → ∃ s, laws_markStringS.l0 k x (1 + (i : Int)) (i : Int) = some (1 + (n : Int), s) := by
  intro d
  induction d with
  | zero =>
    intro k i x hx hi hd hk
    obtain ⟨k, rfl⟩ : ∃ m, k = m + 1 := ⟨k - 1, by omega⟩
    simp only [laws_markStringS.l0]
    rw [if_neg (by omega), show i = n by omega]
    exact ⟨_, rfl⟩
  | succ d ih =>
    intro k i x hx hi hd hk
    obtain ⟨k, rfl⟩ : ∃ m, k = m + 1 := ⟨k - 1, by omega⟩
    simp only [laws_markStringS.l0]
    rw [if_pos (by omega), markT_eq (1 + (i : Int)) (by omega) (by omega) k (by omega)]
    simp only [Option.bind_some]
    rw [if_pos (by omega), show wrap64 (1 + (i : Int) + 1) = 1 + ((i + 1 : Nat) : Int) from by unfold wrap64; omega, w_inc i (by omega)]
    exact ih k (i + 1) _ (by simp [hx]) (by omega) (by omega) (by omega)
theorem markS_eq (l : List ByteArray) (hl : l.length ≤ 1048576) (k : Nat) (hk : l.length + 30 < k) : ∃ s, laws_markStringS.f k l 1 = some (1 + (l.length : Int), s) := by
  unfold laws_markStringS.f
  have := markS_l0 l.length hl l.length k 0 l rfl (by omega) (by omega) hk
  simpa using this
theorem plist0 (X : List Int) (p : Nat) : plist X p 0 = List.replicate p 0 := by
  apply List.ext_getElem
  · simp [plist]
  · intro i h1 h2
    rw [plist_get]; simp [valTo]
theorem toList_nil {s : ByteArray} (hs : s.toList = []) : s.size = 0 := by
  rw [ByteArray.toList_eq] at hs
  rw [← data_length, hs]; rfl
theorem lets_at (s : ByteArray) : ∀ (d i : Nat), lets s d i = true → ∀ j, i ≤ j → j < i + d → 97 ≤ bt s (j : Int) ∧ bt s (j : Int) ≤ 122
  | 0, i, _, j, h1, h2 => by omega
  | d + 1, i, h, j, h1, h2 => by
    rw [lets_succ, Bool.and_eq_true] at h
    by_cases e : j = i
    · subst e
      have := h.1
      unfold letB at this
      rw [Bool.and_eq_true, decide_eq_true_eq, decide_eq_true_eq] at this
      exact this
    · exact lets_at s d (i + 1) h.2 j (by omega) (by omega)
/-- A word that may be laid: empty, or a word. -/
def wOk (b : ByteArray) : Bool := if b.toList = ([] : List UInt8) then true else wordB b
theorem wOk_sz (b : ByteArray) (h : wOk b = true) : b.size ≤ 32 ∧ ∀ j, j < b.size → 97 ≤ bt b (j : Int) ∧ bt b (j : Int) ≤ 122 := by
  unfold wOk at h
  by_cases c : b.toList = ([] : List UInt8)
  · have := toList_nil c
    exact ⟨by omega, fun j hj => by omega⟩
  · rw [if_neg c] at h
    unfold wordB at h
    rw [Bool.and_eq_true, Bool.and_eq_true, decide_eq_true_eq, decide_eq_true_eq] at h
    exact ⟨h.2.1, fun j hj => lets_at b b.size 0 h.2.2 j (by omega) (by omega)⟩
def wd (l : List ByteArray) (m : Nat) : ByteArray := rdOf ByteArray.empty l (m : Int)
theorem wd_get (l : List ByteArray) (m : Nat) (h : m < l.length) : wd l m = l[m] := by simp [wd, rdOf, h]
def allW (l : List ByteArray) : Nat → Bool
  | 0 => true
  | m + 1 => allW l m && wOk (wd l m)
theorem allW_at (l : List ByteArray) : ∀ m, allW l m = true → ∀ j, j < m → wOk (wd l j) = true
  | 0, _, j, hj => by omega
  | m + 1, h, j, hj => by
    unfold allW at h
    rw [Bool.and_eq_true] at h
    by_cases e : j = m
    · subst e; exact h.2
    · exact allW_at l m h.1 j (by omega)
theorem allW_no (l : List ByteArray) (m : Nat) (h : wOk (wd l m) = false) : ∀ n, m < n → allW l n = false := by
  intro n hn
  cases hc : allW l n with
  | false => rfl
  | true => rw [allW_at l n hc m hn] at h; cases h
def lensL (l : List ByteArray) : List Int := l.map fun b => (b.size : Int)
def code (b : ByteArray) (p : Nat) : Int := if p < b.size then bt b (p : Int) - 96 else 0
def codes (l : List ByteArray) (p : Nat) : List Int := l.map fun b => code b p
theorem lens_len (l : List ByteArray) : (lensL l).length = l.length := by simp [lensL]
theorem codes_len (l : List ByteArray) (p : Nat) : (codes l p).length = l.length := by simp [codes]
theorem lens_pl (l : List ByteArray) (m : Nat) (h : m < l.length) : pl (lensL l) m = (wd l m).size := by
  rw [wd_get l m h]
  simp [pl, rd, lensL, h]
theorem codes_pl (l : List ByteArray) (p m : Nat) (h : m < l.length) : pl (codes l p) m = (code (wd l m) p).toNat := by
  rw [wd_get l m h]
  simp [pl, rd, codes, h]
theorem code_range (b : ByteArray) (h : wOk b = true) (p : Nat) : 0 ≤ code b p ∧ code b p ≤ 26 := by
  unfold code
  split
  · rename_i hp
    have := (wOk_sz b h).2 p hp
    omega
  · omega
theorem all_mem (l : List ByteArray) (h : allW l l.length = true) (b : ByteArray) (hb : b ∈ l) : wOk b = true := by
  obtain ⟨j, hj, rfl⟩ := List.getElem_of_mem hb
  have := allW_at l l.length h j hj
  rwa [wd_get l j hj] at this
theorem lens_u (l : List ByteArray) (h : allW l l.length = true) : Uu (lensL l) := by
  intro x hx
  obtain ⟨b, hb, rfl⟩ := List.mem_map.1 hx
  have := (wOk_sz b (all_mem l h b hb)).1
  omega
theorem codes_u (l : List ByteArray) (h : allW l l.length = true) (p : Nat) : Uu (codes l p) := by
  intro x hx
  obtain ⟨b, hb, rfl⟩ := List.mem_map.1 hx
  have := code_range b (all_mem l h b hb) p
  omega
/-- The letters' planes after m lanes; the lane that is being laid has its first q cells. -/
def flF (l : List ByteArray) (m q i : Nat) : Int := ((valTo (codes l (i / 5)) (i % 5) (if i < q then m + 1 else m) : Nat) : Int)
def flat (l : List ByteArray) (m q : Nat) : List Int := (List.range 160).map (flF l m q)
theorem flat_len (l : List ByteArray) (m q : Nat) : (flat l m q).length = 160 := by simp [flat]
theorem flat_get (l : List ByteArray) (m q i : Nat) (h : i < (flat l m q).length) : (flat l m q)[i] = flF l m q i := by simp [flat]
theorem flat_sub (l : List ByteArray) (m p : Nat) (hp : p < 32) : ((flat l m (5 * p)).drop (5 * p)).take 5 = plist (codes l p) 5 m := by
  apply List.ext_getElem
  · simp [flat, plist]; omega
  · intro i h1 h2
    have hi : i < 5 := by simpa [plist] using h2
    rw [List.getElem_take, List.getElem_drop, flat_get, plist_get]
    unfold flF
    rw [show (5 * p + i) / 5 = p from by omega, show (5 * p + i) % 5 = i from by omega, if_neg (by omega)]
theorem flat_put (l : List ByteArray) (m p : Nat) (hp : p < 32) : (flat l m (5 * p)).take (5 * p) ++ (plist (codes l p) 5 (m + 1) ++ (flat l m (5 * p)).drop (5 * p + 5)) = flat l m (5 * (p + 1)) := by
  have hA : ((flat l m (5 * p)).take (5 * p)).length = 5 * p := by rw [List.length_take, flat_len]; omega
  apply List.ext_getElem
  · simp [flat, plist]; omega
  · intro i h1 h2
    rw [flat_len] at h2
    rw [flat_get]
    by_cases c1 : i < 5 * p
    · rw [List.getElem_append_left (by omega), List.getElem_take, flat_get]
      unfold flF
      rw [if_pos c1, if_pos (by omega)]
    · rw [List.getElem_append_right (by omega)]
      simp only [hA]
      by_cases c2 : i < 5 * p + 5
      · rw [List.getElem_append_left (by rw [plist_len]; omega), plist_get]
        unfold flF
        rw [show i / 5 = p from by omega, show i % 5 = i - 5 * p from by omega, if_pos (by omega)]
      · rw [List.getElem_append_right (by rw [plist_len]; omega), List.getElem_drop, flat_get]
        simp only [plist_len]
        unfold flF
        rw [show 5 * p + 5 + (i - 5 * p - 5) = i from by omega, if_neg c1, if_neg (by omega)]
theorem flat_end (l : List ByteArray) (m : Nat) (hm : m < l.length) (q : Nat) (hq : (wd l m).size = q) : flat l m (5 * q) = flat l (m + 1) 0 := by
  apply List.ext_getElem
  · rw [flat_len, flat_len]
  · intro i h1 h2
    rw [flat_get, flat_get]
    unfold flF
    rw [if_neg (show ¬ i < 0 by omega)]
    by_cases c : i < 5 * q
    · rw [if_pos c]
    · rw [if_neg c]
      have e : pl (codes l (i / 5)) m = 0 := by
        rw [codes_pl l _ m hm]
        unfold code
        rw [if_neg (by omega)]; rfl
      congr 1
      rw [show valTo (codes l (i / 5)) (i % 5) (m + 1) = (if (pl (codes l (i / 5)) m).testBit (i % 5) = true then valTo (codes l (i / 5)) (i % 5) m + 2 ^ m else valTo (codes l (i / 5)) (i % 5) m) from rfl, e]
      simp
theorem flat_zero (l : List ByteArray) : flat l 0 0 = List.replicate 160 0 := by
  apply List.ext_getElem
  · simp [flat]
  · intro i h1 h2
    rw [flat_get]
    unfold flF
    rw [if_neg (by omega), List.getElem_replicate]
    simp [valTo]
theorem flat_take (l : List ByteArray) (m p : Nat) (hp : p < 32) : (flat l m 0).take (5 * p) ++ plist (codes l p) 5 m = (flat l m 0).take (5 * (p + 1)) := by
  have hA : ((flat l m 0).take (5 * p)).length = 5 * p := by rw [List.length_take, flat_len]; omega
  apply List.ext_getElem
  · simp [flat, plist]; omega
  · intro i h1 h2
    have h3 : i < 5 * (p + 1) := by rw [List.length_take] at h2; omega
    rw [List.getElem_take, flat_get]
    by_cases c1 : i < 5 * p
    · rw [List.getElem_append_left (by omega), List.getElem_take, flat_get]
    · rw [List.getElem_append_right (by omega)]
      simp only [hA]
      rw [plist_get]
      unfold flF
      rw [show i / 5 = p from by omega, show i % 5 = i - 5 * p from by omega, if_neg (by omega)]
theorem flat_start (l : List ByteArray) (m : Nat) : flat l m 0 = flat l m (5 * 0) := rfl
def planT (l : List ByteArray) : Int × List Int × List Int × Bool := if l.length ≤ 64 ∧ allW l l.length = true then ((l.length : Int), plist (lensL l) 6 l.length, flat l l.length 0, true) else (0, ([] : List Int), ([] : List Int), false)
theorem i_lets (l : List ByteArray) (m : Nat) (hm : m < l.length) (h64 : l.length ≤ 64) (ho : wOk (wd l m) = true) (k : Nat) (hk : 5 < k) : ∀ (d p : Nat), (wd l m).size = p + d → impl_planesOf.lets k (wd l m) (m : Int) d p (flat l m (5 * p)) = some (flat l (m + 1) 0) := by
  have hw := wOk_sz _ ho
  intro d
  induction d with
  | zero =>
    intro p hp
    rw [impl_planesOf.lets, flat_end l m hm p (by omega)]
  | succ d ih =>
    intro p hp
    rw [impl_planesOf.lets, if_pos (by rw [flat_len]; omega), flat_sub l m p (by omega)]
    have hr := hw.2 p (by omega)
    have e : wrap64 (wrap64 (IntKind.u8.wrap (bt (wd l m) (p : Int) - 97)) + 1) = (((code (wd l m) p).toNat : Nat) : Int) := by
      have hc : code (wd l m) p = bt (wd l m) (p : Int) - 96 := if_pos (by omega)
      rw [hc, IntKind.wrap_u8]
      generalize bt (wd l m) (p : Int) = z at hr
      unfold wrap64
      omega
    have hc := code_range _ ho p
    rw [e, lane_eq (codes l p) 5 (by omega) m (by omega) _ (by omega) (codes_pl l p m hm) k hk]
    rw [Option.bind_some, flat_put l m p (by omega)]
    exact ih (p + 1) (by omega)
theorem i_l (l : List ByteArray) (h64 : l.length ≤ 64) (hsz : ∀ j, j < l.length → (wd l j).size ≤ 1048576) (k : Nat) (hk : 1048576 < k) : ∀ (d m : Nat), l.length - m = d → m ≤ l.length → allW l m = true → impl_planesOf.l k (l.drop m) m (plist (lensL l) 6 m) (flat l m 0) = some (if allW l l.length = true then (true, plist (lensL l) 6 l.length, flat l l.length 0) else (false, ([] : List Int), ([] : List Int))) := by
  intro d
  induction d with
  | zero =>
    intro m hd hm ho
    have e : m = l.length := by omega
    subst e
    rw [List.drop_eq_nil_of_le (Nat.le_refl _), impl_planesOf.l, if_pos ho]
  | succ d ih =>
    intro m hd hm ho
    have hlt : m < l.length := by omega
    rw [List.drop_eq_getElem_cons hlt, ← wd_get l m hlt, impl_planesOf.l]
    have et : (if (wd l m).toList = ([] : List UInt8) then some true else impl_isWord.f k (wd l m)) = some (wOk (wd l m)) := by
      unfold wOk
      split
      · rfl
      · exact isWord_eq _ (hsz m hlt) k (by have := hsz m hlt; omega)
    rw [et, Option.bind_some]
    by_cases c : wOk (wd l m) = true
    · rw [if_pos c]
      have hs := (wOk_sz _ c).1
      rw [lane_eq (lensL l) 6 (by omega) m (by omega) (wd l m).size (by omega) (lens_pl l m hlt) k (by omega), Option.bind_some]
      have := i_lets l m hlt h64 c k (by omega) (wd l m).size 0 (by omega)
      rw [Nat.mul_zero] at this
      rw [this, Option.bind_some]
      refine ih (m + 1) (by omega) (by omega) ?_
      unfold allW
      rw [ho, c]; rfl
    · rw [if_neg c]
      have c2 : wOk (wd l m) = false := by simpa using c
      rw [allW_no l m c2 l.length hlt]
      simp
theorem iPlanes0 (l : List ByteArray) (hsz : ∀ j, j < l.length → (wd l j).size ≤ 1048576) (k : Nat) (hk : 1048576 < k) : impl_planesOf.f k l = some (planT l) := by
  unfold impl_planesOf.f planT
  by_cases c : (l.length : Int) > 64
  · rw [if_pos c, if_neg (fun h => by omega)]
  · rw [if_neg c]
    have h := i_l l (by omega) hsz k hk l.length 0 (by omega) (by omega) rfl
    rw [plist0, flat_zero, List.drop_zero] at h
    rw [h, Option.bind_some]
    by_cases c2 : allW l l.length = true
    · have hT : (if l.length ≤ 64 ∧ allW l l.length = true then ((l.length : Int), plist (lensL l) 6 l.length, flat l l.length 0, true) else (0, ([] : List Int), ([] : List Int), false)) = ((l.length : Int), plist (lensL l) 6 l.length, flat l l.length 0, true) := if_pos ⟨by omega, c2⟩
      rw [if_pos c2, hT]
      exact if_pos rfl
    · have hT : (if l.length ≤ 64 ∧ allW l l.length = true then ((l.length : Int), plist (lensL l) 6 l.length, flat l l.length 0, true) else (0, ([] : List Int), ([] : List Int), false)) = (0, ([] : List Int), ([] : List Int), false) := if_neg (fun h => c2 h.2)
      rw [if_neg c2, hT]
      exact if_neg (by simp)
theorem lens_take (l : List ByteArray) (m : Nat) (h : m < l.length) : (lensL l).take m ++ [((wd l m).size : Int)] = (lensL l).take (m + 1) := by
  rw [wd_get l m h, List.take_add_one]
  simp [lensL, h]
theorem codes_take (l : List ByteArray) (p m : Nat) (h : m < l.length) : (codes l p).take m ++ [code (wd l m) p] = (codes l p).take (m + 1) := by
  rw [wd_get l m h, List.take_add_one]
  simp [codes, h]
theorem s_l2 (l : List ByteArray) (h64 : l.length ≤ 64) (ha : allW l l.length = true) (p : Nat) (hp : p < 32) (n : Int) (t : List Int) (R : Int × List Int × List Int × Bool) (hn : Ev fun k => spec_PlanesOf.l1 k l ((p + 1 : Nat) : Int) n t ((flat l l.length 0).take (5 * (p + 1))) = some R) : ∀ (d m : Nat), l.length - m = d → m ≤ l.length → Ev fun k => spec_PlanesOf.l2 k l (p : Int) ((codes l p).take m) (m : Int) n t ((flat l l.length 0).take (5 * p)) = some R := by
  intro d
  induction d with
  | zero =>
    intro m hd hm
    have e : m = l.length := by omega
    subst e
    have hpu := put_eq (codes l p) (codes_u l ha p) (by rw [codes_len]; exact h64) 5 (by omega)
    rw [codes_len] at hpu
    refine (hn.and hpu).up fun k hk => ?_
    obtain ⟨hk, hk2⟩ := hk
    simp only [spec_PlanesOf.l2]
    rw [if_neg (by omega), List.take_of_length_le (by rw [codes_len]; omega)]
    rw [show spec_l07Put.f k (codes l p) 5 = some (plist (codes l p) 5 l.length) from hk2, Option.bind_some, if_pos (by rw [List.length_take, plist_len]; omega), flat_take l l.length p hp, w_inc p (by omega)]
    exact hk
  | succ d ih =>
    intro m hd hm
    have hlt : m < l.length := by omega
    refine (ih (m + 1) (by omega) (by omega)).up fun k hk => ?_
    have hl : ((codes l p).take m).length < 17592186044416 := by rw [List.length_take, codes_len]; omega
    have hw := wOk_sz _ (allW_at l l.length ha m hlt)
    simp only [spec_PlanesOf.l2]
    rw [if_pos (by omega), if_pos (by omega)]
    rw [show rdOf ByteArray.empty l (m : Int) = wd l m from rfl]
    rw [← codes_take l p m hlt] at hk
    by_cases c : p < (wd l m).size
    · have hr := hw.2 p c
      have hc : code (wd l m) p = bt (wd l m) (p : Int) - 96 := if_pos c
      rw [hc] at hk
      rw [if_pos (by omega), if_pos (by omega), if_pos hl, w_inc m (by omega)]
      have e : wrap64 (wrap64 (bt (wd l m) (p : Int)) - 96) = bt (wd l m) (p : Int) - 96 := by
        generalize bt (wd l m) (p : Int) = z at hr
        unfold wrap64
        omega
      rw [e]
      exact hk
    · have hc : code (wd l m) p = 0 := if_neg c
      rw [hc] at hk
      rw [if_neg (by omega), if_pos hl, w_inc m (by omega)]
      exact hk
theorem s_l1 (l : List ByteArray) (h64 : l.length ≤ 64) (ha : allW l l.length = true) (n : Int) (t : List Int) : ∀ (d p : Nat), 32 - p = d → p ≤ 32 → Ev fun k => spec_PlanesOf.l1 k l (p : Int) n t ((flat l l.length 0).take (5 * p)) = some (n, t, flat l l.length 0, true) := by
  intro d
  induction d with
  | zero =>
    intro p hd hp
    have e : p = 32 := by omega
    subst e
    refine Ev.from 1 fun k hk => ?_
    obtain ⟨k, rfl⟩ : ∃ m, k = m + 1 := ⟨k - 1, by omega⟩
    simp only [spec_PlanesOf.l1]
    rw [if_neg (by omega), List.take_of_length_le (by rw [flat_len]; omega)]
  | succ d ih =>
    intro p hd hp
    have h2 := s_l2 l h64 ha p (by omega) n t _ (ih (p + 1) (by omega) (by omega)) l.length 0 (by omega) (by omega)
    refine h2.up fun k hk => ?_
    simp only [spec_PlanesOf.l1]
    rw [if_pos (by omega)]
    exact hk
theorem s_pl0 (l : List ByteArray) (h64 : l.length ≤ 64) (hsz : ∀ j, j < l.length → (wd l j).size ≤ 1048576) : ∀ (d m : Nat), l.length - m = d → m ≤ l.length → allW l m = true → Ev fun k => spec_PlanesOf.l0 k l ((lensL l).take m) (m : Int) = some (planT l) := by
  intro d
  induction d with
  | zero =>
    intro m hd hm ho
    have e : m = l.length := by omega
    subst e
    have hpu := put_eq (lensL l) (lens_u l ho) (by rw [lens_len]; exact h64) 6 (by omega)
    rw [lens_len] at hpu
    have h1 := s_l1 l h64 ho (l.length : Int) (plist (lensL l) 6 l.length) 32 0 (by omega) (by omega)
    refine (h1.and hpu).up fun k hk => ?_
    obtain ⟨hk, hk2⟩ := hk
    simp only [spec_PlanesOf.l0]
    rw [if_neg (by omega), List.take_of_length_le (by rw [lens_len]; omega)]
    rw [show spec_l07Put.f k (lensL l) 6 = some (plist (lensL l) 6 l.length) from hk2, Option.bind_some]
    unfold planT
    rw [if_pos ⟨h64, ho⟩]
    exact hk
  | succ d ih =>
    intro m hd hm ho
    have hlt : m < l.length := by omega
    have hl : ((lensL l).take m).length < 17592186044416 := by rw [List.length_take, lens_len]; omega
    by_cases c : wOk (wd l m) = true
    · have ho2 : allW l (m + 1) = true := by
        unfold allW
        rw [ho, c]; rfl
      refine ((ih (m + 1) (by omega) (by omega) ho2).and (Ev.from (P := fun k => 1048577 < k) 1048578 fun k hk => hk)).up fun k hk => ?_
      obtain ⟨hk, hk2⟩ := hk
      rw [← lens_take l m hlt] at hk
      simp only [spec_PlanesOf.l0]
      rw [if_pos (by omega), if_pos (by omega)]
      rw [show rdOf ByteArray.empty l (m : Int) = wd l m from rfl, w_inc m (by omega)]
      by_cases c2 : (wd l m).toList = ([] : List UInt8)
      · rw [if_pos c2, if_pos hl]
        exact hk
      · have hb : wordB (wd l m) = true := by
          unfold wOk at c
          rwa [if_neg c2] at c
        rw [if_neg c2, wordOk_eq _ (hsz m hlt) k (by have := hsz m hlt; omega), hb, Option.bind_some, if_pos rfl, if_pos hl]
        exact hk
    · have c3 : wOk (wd l m) = false := by simpa using c
      refine Ev.from 1048580 fun k hk => ?_
      obtain ⟨k, rfl⟩ : ∃ m, k = m + 1 := ⟨k - 1, by omega⟩
      simp only [spec_PlanesOf.l0]
      rw [if_pos (by omega), if_pos (by omega)]
      rw [show rdOf ByteArray.empty l (m : Int) = wd l m from rfl]
      have c2 : ¬ (wd l m).toList = ([] : List UInt8) := by
        intro h
        unfold wOk at c
        rw [if_pos h] at c
        exact c rfl
      have hb : wordB (wd l m) = false := by
        unfold wOk at c3
        rwa [if_neg c2] at c3
      rw [if_neg c2, wordOk_eq _ (hsz m hlt) k (by have := hsz m hlt; omega), hb, Option.bind_some, if_neg (by simp)]
      unfold planT
      rw [if_neg (fun h => by have := allW_no l m c3 l.length hlt; rw [this] at h; exact absurd h.2 (by simp))]
theorem sPlanes (l : List ByteArray) (hsz : ∀ j, j < l.length → (wd l j).size ≤ 1048576) : Ev fun k => spec_PlanesOf.f k l = some (planT l) := by
  by_cases c : (l.length : Int) > 64
  · refine Ev.from 0 fun k hk => ?_
    unfold spec_PlanesOf.f planT
    rw [if_pos c, if_neg (fun h => by omega)]
  · refine (s_pl0 l (by omega) hsz l.length 0 (by omega) (by omega) rfl).imp fun k hk => ?_
    unfold spec_PlanesOf.f
    rw [if_neg c]
    exact hk
theorem planT_le (l : List ByteArray) : 0 ≤ (planT l).1 ∧ (planT l).2.1.length ≤ 6 ∧ (planT l).2.2.1.length ≤ 160 := by
  unfold planT
  split
  · exact ⟨by show (0 : Int) ≤ (l.length : Int); omega, by show (plist (lensL l) 6 l.length).length ≤ 6; rw [plist_len]; omega, by show (flat l l.length 0).length ≤ 160; rw [flat_len]; omega⟩
  · exact ⟨by decide, by decide, by decide⟩
theorem eqPlanes_eq (n : Int) (A B : List Int) (hA : A.length ≤ 6) (hB : B.length ≤ 160) (k : Nat) (hk : 200 < k) : laws_eqPlanes.f k n A B n A B = some true := by
  unfold laws_eqPlanes.f
  rw [if_pos rfl, eqUint64S_eq A (by omega) k (by omega), Option.bind_some, if_pos rfl, eqUint64S_eq B (by omega) k (by omega), Option.bind_some, if_pos rfl]
theorem markPlanes_eq (n : Int) (A B : List Int) (hA : A.length ≤ 6) (hB : B.length ≤ 160) (k : Nat) (hk : 200 < k) : laws_markPlanes.f k n A B 1 = some (1 + (A.length : Int) + (B.length : Int), mkU 1 A.length, mkU (1 + (A.length : Int)) B.length) := by
  unfold laws_markPlanes.f
  rw [markU_eq 1 A (by omega) (by omega) (by omega) k (by omega), Option.bind_some]
  dsimp only
  rw [markU_eq (1 + (A.length : Int)) B (by omega) (by omega) (by omega) k (by omega), Option.bind_some]
theorem heldPlanes_eq (n : Int) (a b : Nat) (hA : a ≤ 6) (hB : b ≤ 160) (k : Nat) (hk : 200 < k) : laws_heldPlanes.f k n (mkU 1 a) (mkU (1 + (a : Int)) b) 1 = some (1 + (a : Int) + (b : Int)) := by
  unfold laws_heldPlanes.f
  have h1 := heldU2_eq 1 a (by omega) (by omega) k (by omega)
  have h2 := heldU2_eq (1 + a) b (by omega) (by omega) k (by omega)
  rw [show ((1 : Nat) : Int) = 1 from rfl] at h1
  rw [show ((1 + a : Nat) : Int) = 1 + (a : Int) from by omega] at h2
  rw [h1, Option.bind_some, if_neg (by omega), h2, Option.bind_some, if_neg (by omega)]
theorem PlanesOf_eq (l : List ByteArray) (hsz : ∀ j, j < l.length → (wd l j).size ≤ 1048576) (k : Nat) (hk : 1048576 < k) : impl_PlanesOf.f k l = some (planT l) := by
  unfold impl_PlanesOf.f
  rw [iPlanes0 l hsz k hk, Option.bind_some]
theorem law_at (l : List ByteArray) (r : Int) (h1 : l.length ≤ 1048576) (hsz : ∀ j, j < l.length → (wd l j).size ≤ 1048576) (k : Nat) (hk : 2097152 < k) (hr0 : 0 ≤ r) (hr : laws_szStringS.f (k + 3) l 1048576 = some r) (e1 : spec_PlanesOf.f (k + 3) l = some (planT l)) : laws_FnExactPlanesOf.f (k + 3) l = some true := by
  obtain ⟨hn, hA, hB⟩ := planT_le l
  have e2 := PlanesOf_eq l hsz
  generalize hT : planT l = T at *
  obtain ⟨n, A, B, f⟩ := T
  dsimp only at hn hA hB
  obtain ⟨s, hs⟩ := markS_eq l h1 (k + 2) (by omega)
  unfold laws_FnExactPlanesOf.f
  rw [hr, Option.bind_some, if_neg (by omega), toStringS_eq l h1 _ (by omega), Option.bind_some, e1, Option.bind_some, Option.bind_some, e2 _ (by omega), Option.bind_some]
  dsimp only
  rw [eqPlanes_eq n A B hA hB _ (by omega), Option.bind_some, if_pos rfl]
  rw [laws_FnExactPlanesOf.j0, if_neg (by simp), toStringS_eq l h1 _ (by omega), Option.bind_some, eqStringS_eq l h1 _ (by omega), Option.bind_some, if_pos rfl, hs, Option.bind_some]
  dsimp only
  rw [if_neg (by omega), eqPlanes_eq n A B hA hB _ (by omega), Option.bind_some, if_pos rfl]
  rw [laws_FnExactPlanesOf.j1, if_neg (by simp), markPlanes_eq n A B hA hB _ (by omega), Option.bind_some]
  dsimp only
  rw [heldPlanes_eq n _ _ hA hB _ (by omega), Option.bind_some, if_neg (by omega), if_pos rfl, toStringS_eq l h1 _ (by omega), Option.bind_some, e2 _ (by omega), Option.bind_some]
  dsimp only
  rw [eqPlanes_eq n A B hA hB _ (by omega), Option.bind_some, if_pos rfl]
  rw [laws_FnExactPlanesOf.j2, if_neg (by simp), heldPlanes_eq n _ _ hA hB _ (by omega), Option.bind_some, if_neg (by omega), if_pos rfl]
theorem FnExactPlanesOf (l0 : (List ByteArray)) (w0 : (l0.length ≤ maxLen ∧ ∀ y, y ∈ l0 → y.size ≤ maxLen)) : ∃ k, laws_FnExactPlanesOf.f k l0 = some true := by
  obtain ⟨r, hr, hs⟩ := szS l0 w0.2 w0.1
  rcases hs with hs | ⟨hs, hl, hz⟩
  · refine ⟨l0.length + 1, ?_⟩
    unfold laws_FnExactPlanesOf.f
    rw [hr _ (by omega), Option.bind_some, if_pos hs]
  · obtain ⟨K, h⟩ := sPlanes l0 hz
    exact ⟨K + 2097153 + 3, law_at l0 r hl hz _ (by omega) hs (hr _ (by omega)) (h _ (by omega))⟩

end Go.Proofs.Ytljmhhadclgegaa.Pure

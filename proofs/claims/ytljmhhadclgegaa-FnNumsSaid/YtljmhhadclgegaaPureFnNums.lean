/- For every input of bytes the law FnNums returns true: numbers in planes are added, compared and minimized lane by lane. -/
import Derived.Test.YtljmhhadclgegaaPFnNumsx6
import Derived.Laws.BitsAllLaws
namespace Go.Proofs.Ytljmhhadclgegaa.Pure
open Go.RowKit Go.Proofs.Ytljmhhadclgegaa.PFnNums Go.Proofs.YtljmhhadclgegaaW.PrintWords Go.Proofs.YtljmhhadclgegaaW.PrintLast Go.Proofs.YtljmhhadclgegaaW.PrintMore
set_option linter.unusedVariables false
set_option linter.unusedSimpArgs false

def Ev (P : Nat → Prop) : Prop := ∃ K, ∀ k, K ≤ k → P k
theorem Ev.up {P Q : Nat → Prop} (h : Ev P) (f : ∀ k, P k → Q (k + 1)) : Ev Q := by
  obtain ⟨K, h⟩ := h
  exact ⟨K + 1, fun k hk => by
    obtain ⟨m, rfl⟩ : ∃ m, k = m + 1 := ⟨k - 1, by omega⟩
    exact f m (h m (by omega))⟩
theorem Ev.and {P Q : Nat → Prop} (h : Ev P) (h' : Ev Q) : Ev fun k => P k ∧ Q k := by
  obtain ⟨K, h⟩ := h
  obtain ⟨K', h'⟩ := h'
  exact ⟨K + K', fun k hk => ⟨h k (by omega), h' k (by omega)⟩⟩
theorem Ev.imp {P Q : Nat → Prop} (h : Ev P) (f : ∀ k, P k → Q k) : Ev Q := by
  obtain ⟨K, h⟩ := h
  exact ⟨K, fun k hk => f k (h k hk)⟩
theorem Ev.from {P : Nat → Prop} (K : Nat) (h : ∀ k, K ≤ k → P k) : Ev P := ⟨K, h⟩
theorem w_up (n : Nat) (h : n ≤ 2000000) : wrap64 (((n + 1 : Nat) : Int) - 1) = (n : Int) := by unfold wrap64; omega
theorem w_inc (n : Nat) (h : n ≤ 2000000) : wrap64 ((n : Int) + 1) = ((n + 1 : Nat) : Int) := by unfold wrap64; omega
theorem w_half (y : Nat) (h : y < 18446744073709551616) : wrap64 ((y / 2 : Nat) : Int) = ((y / 2 : Nat) : Int) := by unfold wrap64; omega
theorem w_tw (r : Nat) (h : 2 * r ≤ 9223372036854775808) : IntKind.u64.wrap (2 * (r : Int)) = ((2 * r : Nat) : Int) := by rw [IntKind.wrap_u64]; omega
theorem w_sum (a b : Nat) (h : a ≤ b) (hb : b ≤ 9223372036854775808) (h2 : a < b ∨ a < b := by omega) : IntKind.u64.wrap ((a : Int) + (b : Int)) = ((a + b : Nat) : Int) := by rw [IntKind.wrap_u64]; omega
def two64 : Nat := 18446744073709551616
def Uu (l : List Int) : Prop := ∀ x, x ∈ l → 0 ≤ x ∧ x < 18446744073709551616
/-- Plane k of a number, as a natural number. -/
def pl (l : List Int) (k : Nat) : Nat := (rd l (k : Int)).toNat
theorem rd_pl (l : List Int) (h : Uu l) (k : Nat) : rd l (k : Int) = ((pl l k : Nat) : Int) ∧ pl l k < 18446744073709551616 := by
  by_cases c : k < l.length
  · have e : rd l (k : Int) = l[k] := by simp [rd, c]
    have := h l[k] (List.getElem_mem _)
    unfold pl
    rw [e]
    omega
  · have e : rd l (k : Int) = 0 := by simp [rd, List.getElem?_eq_none (Nat.le_of_not_lt c)]
    unfold pl
    rw [e]
    omega
theorem tb (v j : Nat) : v.testBit j = decide (v / 2 ^ j % 2 = 1) := Nat.testBit_eq_decide_div_mod_eq
theorem addpow (x i k : Nat) (h : x < 2 ^ i) : (x + 2 ^ i).testBit k = (decide (k = i) || x.testBit k) := by
  rw [Nat.add_comm]
  rcases Nat.lt_trichotomy k i with c | c | c
  · rw [Nat.testBit_two_pow_add_gt c, decide_eq_false (by omega)]; rfl
  · subst c
    rw [Nat.testBit_two_pow_add_eq, Nat.testBit_lt_two_pow h]; simp
  · have h1 : 2 ^ i + x < 2 ^ k := by
      have : 2 ^ (i + 1) ≤ 2 ^ k := Nat.pow_le_pow_right (by omega) (by omega)
      rw [Nat.pow_succ] at this
      omega
    have h2 : x < 2 ^ k := by omega
    rw [Nat.testBit_lt_two_pow h1, Nat.testBit_lt_two_pow h2, decide_eq_false (by omega)]; rfl
/-- The number of lane j: its lowest i planes. -/
def valTo (l : List Int) (j : Nat) : Nat → Nat
  | 0 => 0
  | i + 1 => if (pl l i).testBit j = true then valTo l j i + 2 ^ i else valTo l j i
theorem valTo_lt (l : List Int) (j : Nat) : ∀ i, valTo l j i < 2 ^ i
  | 0 => by simp [valTo]
  | i + 1 => by
    have := valTo_lt l j i
    unfold valTo
    rw [Nat.pow_succ]
    split <;> omega
theorem valTo_bit (l : List Int) (j k : Nat) : ∀ i, (valTo l j i).testBit k = (decide (k < i) && (pl l k).testBit j)
  | 0 => by simp [valTo]
  | i + 1 => by
    have h := valTo_bit l j k i
    unfold valTo
    by_cases c : (pl l i).testBit j = true
    · rw [if_pos c, addpow _ _ _ (valTo_lt l j i), h]
      by_cases e : k = i
      · subst e; simp [c]
      · have : decide (k < i + 1) = decide (k < i) := by simp; omega
        rw [this, decide_eq_false e]; rfl
    · rw [if_neg c, h]
      by_cases e : k = i
      · subst e; simp [Bool.eq_false_iff.2 c]
      · have : decide (k < i + 1) = decide (k < i) := by simp; omega
        rw [this]
theorem pow_u0 : ∀ (n k r : Nat), n < k → n ≤ 63 → r * 2 ^ n ≤ 9223372036854775808 → 1 ≤ r → spec_l06Power.l0 k (n : Int) (r : Int) = some ((r * 2 ^ n : Nat) : Int)
  | 0, k, r, hk, _, _, _ => by
    obtain ⟨k, rfl⟩ : ∃ m, k = m + 1 := ⟨k - 1, by omega⟩
    simp [spec_l06Power.l0]
  | n + 1, k, r, hk, hn, h, hr => by
    obtain ⟨k, rfl⟩ : ∃ m, k = m + 1 := ⟨k - 1, by omega⟩
    have e : r * 2 ^ (n + 1) = 2 * r * 2 ^ n := by rw [Nat.pow_succ, Nat.mul_comm 2 r, Nat.mul_assoc, Nat.mul_comm 2 (2 ^ n)]
    have hle : 2 * r ≤ 2 * r * 2 ^ n := Nat.le_mul_of_pos_right _ (Nat.two_pow_pos n)
    rw [e] at h ⊢
    have hle2 : 2 * r ≤ 9223372036854775808 := Nat.le_trans hle h
    simp only [spec_l06Power.l0]
    rw [if_pos (by omega), w_up n (by omega), w_tw r hle2]
    exact pow_u0 n k (2 * r) (by omega) (by omega) h (by omega)
theorem pow_u (n k : Nat) (hn : n ≤ 63) (hk : n < k) : spec_l06Power.f k (n : Int) = some ((2 ^ n : Nat) : Int) := by
  have hp : 2 ^ n ≤ 9223372036854775808 := Nat.le_trans (Nat.pow_le_pow_right (by omega) hn) (by decide)
  unfold spec_l06Power.f
  have := pow_u0 n k 1 hk hn (by omega) (by omega)
  simpa using this
/-- The planes of a list's first m numbers. -/
def plist (X : List Int) (p m : Nat) : List Int := (List.range p).map fun (k : Nat) => ((valTo X k m : Nat) : Int)
theorem plist_len (X : List Int) (p m : Nat) : (plist X p m).length = p := by simp [plist]
theorem plist_get (X : List Int) (p m i : Nat) (h : i < (plist X p m).length) : (plist X p m)[i] = ((valTo X i m : Nat) : Int) := by simp [plist]
theorem put_l1 (X : List Int) (hu : Uu X) (hX : X.length ≤ 64) (p : Nat) (hp : p ≤ 64) (m : Nat) (hm : m < X.length) (r : List Int) (tail : Ev fun k => spec_l07Put.l0 k X (p : Int) (plist X p (m + 1)) ((m + 1 : Nat) : Int) = some r) :
    ∀ (d i : Nat) (l : List Int), p - i = d → i ≤ p → l.length = p → l.take i = (plist X p (m + 1)).take i → l.drop i = (plist X p m).drop i → Ev fun k => spec_l07Put.l1 k X (p : Int) l (m : Int) ((pl X m / 2 ^ i : Nat) : Int) (i : Int) = some r := by
  intro d
  induction d with
  | zero =>
    intro i l hd hi hl h1 h2
    have e : i = p := by omega
    subst e
    rw [List.take_of_length_le (by omega), List.take_of_length_le (by rw [plist_len]; omega)] at h1
    subst h1
    refine tail.up fun k hk => ?_
    simp only [spec_l07Put.l1]
    rw [if_neg (by omega), w_inc m (by omega)]
    exact hk
  | succ d ih =>
    intro i l hd hi hl h1 h2
    have hlt : i < p := by omega
    have hp1 : i < (plist X p m).length := by rw [plist_len]; exact hlt
    have hp2 : i < (plist X p (m + 1)).length := by rw [plist_len]; exact hlt
    have hcur : l[i]'(by omega) = ((valTo X i m : Nat) : Int) := by
      have := congrArg (fun z => z[0]?) h2
      simp only [List.getElem?_drop, Nat.add_zero] at this
      rw [List.getElem?_eq_getElem (by omega), List.getElem?_eq_getElem hp1, plist_get] at this
      exact Option.some.inj this
    have hdr : l.drop (i + 1) = (plist X p m).drop (i + 1) := by
      have := congrArg (List.drop 1) h2
      simpa [List.drop_drop, Nat.add_comm] using this
    have hv := rd_pl X hu m
    have hq : pl X m / 2 ^ i ≤ pl X m := Nat.div_le_self _ _
    have e2 : pl X m / 2 ^ (i + 1) = pl X m / 2 ^ i / 2 := by rw [Nat.pow_succ, Nat.div_div_eq_div_mul]
    have hlow := valTo_lt X i m
    have h64 : 2 ^ m ≤ 9223372036854775808 := Nat.le_trans (Nat.pow_le_pow_right (by omega) (show m ≤ 63 by omega)) (by decide)
    by_cases c : (pl X m).testBit i = true
    · have hodd : pl X m / 2 ^ i % 2 = 1 := by rw [tb] at c; exact of_decide_eq_true c
      have hnew : valTo X i (m + 1) = valTo X i m + 2 ^ m := by rw [valTo, if_pos c]
      have ht : (l.set i ((valTo X i (m + 1) : Nat) : Int)).take (i + 1) = (plist X p (m + 1)).take (i + 1) := by
        rw [List.take_add_one, List.take_add_one, List.take_set_of_le (Nat.le_refl _), h1, List.getElem?_eq_getElem hp2, plist_get]
        simp [hl, hlt]
      refine ((ih (i + 1) (l.set i ((valTo X i (m + 1) : Nat) : Int)) (by omega) (by omega) (by simpa using hl) ht (by rw [List.drop_set_of_lt (by omega)]; exact hdr)).and (Ev.from (P := fun k => m < k) (m + 1) fun k hk => hk)).up fun k hk => ?_
      obtain ⟨hk, hk2⟩ := hk
      rw [e2] at hk
      simp only [spec_l07Put.l1]
      have er : rd l (i : Int) = ((valTo X i m : Nat) : Int) := by
        rw [← hcur]; simp [rd, hl, hlt]
      rw [er, pow_u m k (by omega) hk2]
      generalize pl X m / 2 ^ i = y at hk hq hodd ⊢
      rw [if_pos (by omega), if_pos (by rw [show Int.tmod (y : Int) 2 = ((y % 2 : Nat) : Int) from rfl, hodd]; rfl), if_pos (by omega), if_pos (by omega)]
      simp only [Option.bind_some]
      rw [Int.toNat_natCast, w_sum (valTo X i m) (2 ^ m) (by omega) h64, ← hnew, show Int.tdiv (y : Int) 2 = ((y / 2 : Nat) : Int) from rfl, w_half y (by omega), w_inc i (by omega)]
      exact hk
    · have heven : ¬ pl X m / 2 ^ i % 2 = 1 := by rw [tb] at c; intro h; exact c (decide_eq_true h)
      have hnew : valTo X i (m + 1) = valTo X i m := by rw [valTo, if_neg c]
      have ht : l.take (i + 1) = (plist X p (m + 1)).take (i + 1) := by
        rw [List.take_add_one, List.take_add_one, h1, List.getElem?_eq_getElem hp2, plist_get, List.getElem?_eq_getElem (by omega), hcur, hnew]
      refine (ih (i + 1) l (by omega) (by omega) hl ht hdr).up fun k hk => ?_
      rw [e2] at hk
      simp only [spec_l07Put.l1]
      generalize pl X m / 2 ^ i = y at hk hq heven ⊢
      rw [if_pos (by omega), if_neg (by rw [show Int.tmod (y : Int) 2 = ((y % 2 : Nat) : Int) from rfl]; omega), show Int.tdiv (y : Int) 2 = ((y / 2 : Nat) : Int) from rfl, w_half y (by omega), w_inc i (by omega)]
      exact hk
theorem put_l0 (X : List Int) (hu : Uu X) (hX : X.length ≤ 64) (p : Nat) (hp : p ≤ 64) : ∀ (d m : Nat), X.length - m = d → m ≤ X.length → Ev fun k => spec_l07Put.l0 k X (p : Int) (plist X p m) (m : Int) = some (plist X p X.length) := by
  intro d
  induction d with
  | zero =>
    intro m hd hm
    have e : m = X.length := by omega
    refine Ev.from 1 fun k hk => ?_
    obtain ⟨k, rfl⟩ : ∃ m, k = m + 1 := ⟨k - 1, by omega⟩
    simp only [spec_l07Put.l0]
    rw [if_neg (by omega), e]
  | succ d ih =>
    intro m hd hm
    have hlt : m < X.length := by omega
    have l1 := put_l1 X hu hX p hp m hlt _ (ih (m + 1) (by omega) (by omega)) p 0 (plist X p m) (by omega) (by omega) (plist_len X p m) rfl rfl
    refine l1.up fun k hk => ?_
    simp only [spec_l07Put.l0]
    rw [if_pos (by omega), if_pos (by omega), (rd_pl X hu m).1]
    rw [Nat.pow_zero, Nat.div_one] at hk
    exact hk
theorem put_eq (X : List Int) (hu : Uu X) (hX : X.length ≤ 64) (p : Nat) (hp : p ≤ 64) : Ev fun k => spec_l07Put.f k X (p : Int) = some (plist X p X.length) := by
  refine (put_l0 X hu hX p hp X.length 0 (by omega) (by omega)).imp fun k hk => ?_
  unfold spec_l07Put.f
  rw [if_pos (by omega), if_pos (by omega), Int.toNat_natCast]
  have e : plist X p 0 = List.replicate p 0 := by
    apply List.ext_getElem
    · simp [plist]
    · intro i h1 h2
      rw [plist_get]; simp [valTo]
  rw [e] at hk
  exact hk
theorem and1 (y : Nat) (h : y < 4294967296) : Go.bits .and .i64 (y : Int) 1 = ((y % 2 : Nat) : Int) := by
  have h1 : (BitVec.ofInt 64 (y : Int)).toNat = y := by
    rw [BitVec.ofInt_natCast, BitVec.toNat_ofNat]; exact Nat.mod_eq_of_lt (by omega)
  have h2 : (BitVec.ofInt 64 (1 : Int)).toNat = 1 := by decide
  show IntKind.i64.wrap ((BitVec.ofInt 64 (y : Int) &&& BitVec.ofInt 64 (1 : Int)).toNat : Int) = _
  rw [BitVec.toNat_and, h1, h2, Nat.and_one_is_mod, IntKind.wrap_i64]
  omega
theorem shr_n (x y : Nat) (h : y ≤ 64) : shr .i64 (x : Int) (y : Int) = ((x / 2 ^ y : Nat) : Int) := by
  unfold shr
  rw [Int.toNat_natCast, show min y IntKind.i64.bits = y from Nat.min_eq_left h]
  rw [Int.natCast_ediv, Int.natCast_pow]; rfl
theorem or_pow (x m : Nat) (h : x < 2 ^ m) : x ||| 2 ^ m = x + 2 ^ m := by
  apply Nat.eq_of_testBit_eq
  intro k
  rw [addpow x m k h, Nat.testBit_or, Nat.testBit_two_pow]
  by_cases e : k = m
  · subst e; simp
  · rw [decide_eq_false e, decide_eq_false (fun h => e h.symm)]; simp
theorem shl_b (b m : Nat) (hb : b ≤ 1) (hm : m ≤ 63) : shl .u64 (IntKind.u64.wrap (b : Int)) (m : Int) = ((b * 2 ^ m : Nat) : Int) := by
  have hp : 2 ^ m ≤ 9223372036854775808 := Nat.le_trans (Nat.pow_le_pow_right (by omega) hm) (by decide)
  have e1 : IntKind.u64.wrap (b : Int) = (b : Int) := by rw [IntKind.wrap_u64]; omega
  unfold shl
  rw [e1, Int.toNat_natCast, show min m IntKind.u64.bits = m from Nat.min_eq_left (show m ≤ 64 by omega), IntKind.wrap_u64]
  have e2 : (b : Int) * 2 ^ m = ((b * 2 ^ m : Nat) : Int) := by rw [Int.natCast_mul, Int.natCast_pow]; rfl
  rw [e2]
  have hle : b * 2 ^ m ≤ 1 * 2 ^ m := Nat.mul_le_mul_right _ hb
  generalize b * 2 ^ m = z at hle ⊢
  omega
/-- One lane more: what setLane makes of the planes. -/
theorem lane_l0 (X : List Int) (p : Nat) (hp : p ≤ 160) (m : Nat) (hm : m < 64) (n : Nat) (hn : n < 65536) (hX : pl X m = n) : ∀ (d k i : Nat) (l : List Int), p - i = d → i ≤ p → d < k → l.length = p → p ≤ 64 → l.take i = (plist X p (m + 1)).take i → l.drop i = (plist X p m).drop i → impl_setLane.l0 k l (m : Int) (n : Int) (p : Int) (i : Int) = some (plist X p (m + 1)) := by
  intro d
  induction d with
  | zero =>
    intro k i l hd hi hk hl _ h1 h2
    obtain ⟨k, rfl⟩ : ∃ m, k = m + 1 := ⟨k - 1, by omega⟩
    rw [List.take_of_length_le (by omega), List.take_of_length_le (by rw [plist_len]; omega)] at h1
    simp only [impl_setLane.l0]
    rw [if_neg (by omega), h1]
  | succ d ih =>
    intro k i l hd hi hk hl h64 h1 h2
    obtain ⟨k, rfl⟩ : ∃ m, k = m + 1 := ⟨k - 1, by omega⟩
    have hlt : i < p := by omega
    have hp1 : i < (plist X p m).length := by rw [plist_len]; exact hlt
    have hp2 : i < (plist X p (m + 1)).length := by rw [plist_len]; exact hlt
    have hcur : l[i]'(by omega) = ((valTo X i m : Nat) : Int) := by
      have := congrArg (fun z => z[0]?) h2
      simp only [List.getElem?_drop, Nat.add_zero] at this
      rw [List.getElem?_eq_getElem (by omega), List.getElem?_eq_getElem hp1, plist_get] at this
      exact Option.some.inj this
    have hdr : l.drop (i + 1) = (plist X p m).drop (i + 1) := by
      have := congrArg (List.drop 1) h2
      simpa [List.drop_drop, Nat.add_comm] using this
    have er : rd l (i : Int) = ((valTo X i m : Nat) : Int) := by
      rw [← hcur]; simp [rd, hl, hlt]
    have hq : n / 2 ^ i ≤ n := Nat.div_le_self _ _
    have hv := valTo_lt X i m
    have hp63 : 2 ^ m ≤ 9223372036854775808 := Nat.le_trans (Nat.pow_le_pow_right (by omega) (show m ≤ 63 by omega)) (by decide)
    have hnew : ((valTo X i (m + 1) : Nat) : Int) = Go.bits .or .u64 (rd l (i : Int)) (shl .u64 (IntKind.u64.wrap (Go.bits .and .i64 (shr .i64 (n : Int) (i : Int)) 1)) (m : Int)) := by
      rw [er, shr_n n i (by omega), and1 _ (by omega), shl_b _ m (by omega) (by omega)]
      rw [show valTo X i (m + 1) = (if (pl X m).testBit i = true then valTo X i m + 2 ^ m else valTo X i m) from rfl, hX, tb]
      by_cases c : n / 2 ^ i % 2 = 1
      · rw [decide_eq_true c, if_pos rfl, c, Nat.one_mul, bits_or_u64_nat _ _ (by omega) (by omega), or_pow _ _ hv]
      · have c0 : n / 2 ^ i % 2 = 0 := by omega
        rw [decide_eq_false c, if_neg (by decide), c0, Nat.zero_mul, bits_or_u64_nat _ _ (by omega) (by omega), Nat.or_zero]
    simp only [impl_setLane.l0]
    rw [if_pos (by omega), if_pos (by omega), if_pos (by omega), if_pos (by omega), Int.toNat_natCast, ← hnew, w_inc i (by omega)]
    refine ih k (i + 1) _ (by omega) (by omega) (by omega) (by simpa using hl) h64 ?_ (by rw [List.drop_set_of_lt (by omega)]; exact hdr)
    rw [List.take_add_one, List.take_add_one, List.take_set_of_le (Nat.le_refl _), h1, List.getElem?_eq_getElem hp2, plist_get]
    simp [hl, hlt]
theorem lane_eq (X : List Int) (p : Nat) (h64 : p ≤ 64) (m : Nat) (hm : m < 64) (n : Nat) (hn : n < 65536) (hX : pl X m = n) (k : Nat) (hk : p < k) : impl_setLane.f k (plist X p m) (m : Int) (n : Int) = some (plist X p (m + 1)) := by
  unfold impl_setLane.f
  rw [plist_len]
  exact lane_l0 X p (by omega) m hm n hn hX p k 0 (plist X p m) (by omega) (by omega) hk (plist_len X p m) h64 rfl rfl
theorem w_dbl (r : Nat) (h : r ≤ 2000000) : wrap64 (2 * (r : Int)) = ((2 * r : Nat) : Int) := by unfold wrap64; omega
theorem pow_l0 : ∀ (n k : Nat) (r : Nat), n ≤ 16 → n < k → r * 2 ^ n ≤ 65536 → spec_l02Pow.l0 k (n : Int) (r : Int) = some ((r * 2 ^ n : Nat) : Int)
  | 0, k, r, _, hk, _ => by
    obtain ⟨k, rfl⟩ : ∃ m, k = m + 1 := ⟨k - 1, by omega⟩
    simp [spec_l02Pow.l0]
  | n + 1, k, r, hn, hk, h => by
    obtain ⟨k, rfl⟩ : ∃ m, k = m + 1 := ⟨k - 1, by omega⟩
    have e : r * 2 ^ (n + 1) = 2 * r * 2 ^ n := by rw [Nat.pow_succ]; rw [Nat.mul_comm 2 r, Nat.mul_assoc, Nat.mul_comm 2 (2 ^ n)]
    have hle : 2 * r ≤ 65536 := Nat.le_trans (Nat.le_mul_of_pos_right _ (Nat.two_pow_pos n)) (by rw [← e]; exact h)
    simp only [spec_l02Pow.l0]
    rw [if_pos (by omega), w_up n (by omega), w_dbl r (by omega), e]
    exact pow_l0 n k (2 * r) (by omega) (by omega) (by rw [← e]; exact h)
theorem pow_eq (n : Nat) (hn : n ≤ 16) (k : Nat) (hk : n < k) : spec_l02Pow.f k (n : Int) = some ((2 ^ n : Nat) : Int) := by
  have hp : 2 ^ n ≤ 65536 := Nat.le_trans (Nat.pow_le_pow_right (by omega) hn) (by decide)
  unfold spec_l02Pow.f
  have := pow_l0 n k 1 hn hk (by omega)
  simpa using this
def okAll (X : List Int) (p : Nat) : Nat → Bool
  | 0 => true
  | m + 1 => okAll X p m && (decide (0 ≤ rd X (m : Int)) && decide (rd X (m : Int) < ((2 ^ p : Nat) : Int)))
def numR (X : List Int) (p : Nat) : List Int := if okAll X p X.length = true then plist X p X.length else []
theorem okAll_iff (X : List Int) (p : Nat) : ∀ m, okAll X p m = true ↔ ∀ j, j < m → 0 ≤ rd X (j : Int) ∧ rd X (j : Int) < ((2 ^ p : Nat) : Int)
  | 0 => by simp [okAll]
  | m + 1 => by
    unfold okAll
    rw [Bool.and_eq_true, okAll_iff X p m, Bool.and_eq_true, decide_eq_true_eq, decide_eq_true_eq]
    constructor
    · rintro ⟨h1, h2⟩ j hj
      by_cases e : j = m
      · subst e; exact h2
      · exact h1 j (by omega)
    · intro h
      exact ⟨fun j hj => h j (by omega), h m (by omega)⟩
theorem i_l0 (X : List Int) (hX : X.length ≤ 64) (p : Nat) (hp : p ≤ 16) : ∀ (d m : Nat), X.length - m = d → m ≤ X.length → okAll X p m = true → Ev fun k => impl_NumsOf.l0 k (p : Int) (plist X p m) X (X.length : Int) (m : Int) = some (numR X p) := by
  have hpp : 2 ^ p ≤ 65536 := Nat.le_trans (Nat.pow_le_pow_right (by omega) hp) (by decide)
  intro d
  induction d with
  | zero =>
    intro m hd hm ho
    have e : m = X.length := by omega
    subst e
    refine Ev.from 1 fun k hk => ?_
    obtain ⟨k, rfl⟩ : ∃ m, k = m + 1 := ⟨k - 1, by omega⟩
    simp only [impl_NumsOf.l0]
    rw [if_neg (by omega)]
    unfold numR
    rw [if_pos ho]
  | succ d ih =>
    intro m hd hm ho
    have hlt : m < X.length := by omega
    have hsh : wrap64 (shl .i64 1 (p : Int) - 1) = ((2 ^ p : Nat) : Int) - 1 := by
      unfold shl
      rw [Int.toNat_natCast, show min p IntKind.i64.bits = p from Nat.min_eq_left (show p ≤ 64 by omega), Int.one_mul, IntKind.wrap_i64]
      have : ((2 : Int) ^ p) = ((2 ^ p : Nat) : Int) := by rw [Int.natCast_pow]; rfl
      rw [this]
      obtain ⟨z, hz⟩ : ∃ z, z = 2 ^ p := ⟨_, rfl⟩
      have hz1 : 1 ≤ z := by rw [hz]; exact Nat.two_pow_pos p
      rw [← hz] at hpp ⊢
      unfold wrap64
      omega
    by_cases c : 0 ≤ rd X (m : Int) ∧ rd X (m : Int) < ((2 ^ p : Nat) : Int)
    · have ho2 : okAll X p (m + 1) = true := by
        unfold okAll
        rw [ho, decide_eq_true c.1, decide_eq_true c.2]; rfl
      obtain ⟨n, hn⟩ := Int.eq_ofNat_of_zero_le c.1
      refine ((ih (m + 1) (by omega) (by omega) ho2).and (Ev.from (P := fun k => p < k) (p + 1) fun k hk => hk)).up fun k hk => ?_
      obtain ⟨hk, hk2⟩ := hk
      simp only [impl_NumsOf.l0]
      rw [if_pos (by omega), if_pos (by omega), if_pos (by omega), if_pos (by omega), hsh]
      unfold impl_within.f
      rw [if_pos (show rd X (m : Int) ≥ 0 from c.1), decide_eq_true (by omega)]
      simp only [Option.bind_some, if_true]
      rw [hn, lane_eq X p (by omega) m (by omega) n (by omega) (by unfold pl; rw [hn]; simp) k hk2]
      simp only [Option.bind_some]
      rw [w_inc m (by omega)]
      exact hk
    · have hno : numR X p = [] := by
        unfold numR
        rw [if_neg]
        intro h
        exact c ((okAll_iff X p X.length).1 h m hlt)
      refine Ev.from 1 fun k hk => ?_
      obtain ⟨k, rfl⟩ : ∃ m, k = m + 1 := ⟨k - 1, by omega⟩
      simp only [impl_NumsOf.l0]
      rw [if_pos (by omega), if_pos (by omega), if_pos (by omega), if_pos (by omega), hsh, hno]
      unfold impl_within.f
      by_cases c1 : rd X (m : Int) ≥ 0
      · rw [if_pos c1, decide_eq_false (by omega)]
        simp
      · rw [if_neg c1]
        simp
theorem s_l0 (X : List Int) (hX : X.length ≤ 64) (p : Nat) (hp : p ≤ 16) : ∀ (d m : Nat), X.length - m = d → m ≤ X.length → okAll X p m = true → Ev fun k => spec_NumsOf.l0 k X (p : Int) (m : Int) = some (numR X p) := by
  have hpp : 2 ^ p ≤ 65536 := Nat.le_trans (Nat.pow_le_pow_right (by omega) hp) (by decide)
  intro d
  induction d with
  | zero =>
    intro m hd hm ho
    have e : m = X.length := by omega
    subst e
    have hu : Uu X := by
      intro x hx
      obtain ⟨j, hj, rfl⟩ := List.getElem_of_mem hx
      have := (okAll_iff X p X.length).1 ho j hj
      have e : rd X (j : Int) = X[j] := by simp [rd, hj]
      rw [e] at this
      omega
    refine (put_eq X hu hX p (by omega)).up fun k hk => ?_
    simp only [spec_NumsOf.l0]
    rw [if_neg (by omega), hk]
    unfold numR
    rw [if_pos ho]; rfl
  | succ d ih =>
    intro m hd hm ho
    have hlt : m < X.length := by omega
    by_cases c : 0 ≤ rd X (m : Int) ∧ rd X (m : Int) < ((2 ^ p : Nat) : Int)
    · have ho2 : okAll X p (m + 1) = true := by
        unfold okAll
        rw [ho, decide_eq_true c.1, decide_eq_true c.2]; rfl
      refine ((ih (m + 1) (by omega) (by omega) ho2).and (Ev.from (P := fun k => p < k) (p + 1) fun k hk => hk)).up fun k hk => ?_
      obtain ⟨hk, hk2⟩ := hk
      simp only [spec_NumsOf.l0]
      rw [if_pos (by omega), if_pos (by omega), if_neg (by omega), pow_eq p hp k hk2]
      simp only [Option.bind_some]
      rw [if_neg (by omega), w_inc m (by omega)]
      exact hk
    · have hno : numR X p = [] := by
        unfold numR
        rw [if_neg]
        intro h
        exact c ((okAll_iff X p X.length).1 h m hlt)
      refine (Ev.from (P := fun k => p < k) (p + 1) fun k hk => hk).up fun k hk2 => ?_
      simp only [spec_NumsOf.l0]
      rw [if_pos (by omega), if_pos (by omega), hno]
      by_cases c1 : rd X (m : Int) < 0
      · rw [if_pos c1]
      · rw [if_neg c1, pow_eq p hp k hk2]
        simp only [Option.bind_some]
        rw [if_pos (by omega)]
theorem plist0 (X : List Int) (p : Nat) : plist X p 0 = List.replicate p 0 := by
  apply List.ext_getElem
  · simp [plist]
  · intro i h1 h2
    rw [plist_get]; simp [valTo]
def numT (X : List Int) (a : Int) : List Int := if X.length ≤ 64 ∧ 0 ≤ a ∧ a ≤ 16 then numR X a.toNat else []
theorem numT_len (X : List Int) (a : Int) : (numT X a).length ≤ 16 := by
  unfold numT
  split
  · rename_i h
    unfold numR
    split
    · rw [plist_len]; omega
    · simp
  · simp
theorem iNum (X : List Int) (a : Int) : Ev fun k => impl_NumsOf.f k X a = some (numT X a) := by
  by_cases c1 : (X.length : Int) > 64
  · refine Ev.from 1 fun k hk => ?_
    obtain ⟨k, rfl⟩ : ∃ m, k = m + 1 := ⟨k - 1, by omega⟩
    unfold impl_NumsOf.f numT
    rw [if_pos c1, if_neg (by omega)]
    simp [impl_NumsOf.j0]
  · by_cases c2 : 0 ≤ a ∧ a ≤ 16
    · obtain ⟨p, rfl⟩ := Int.eq_ofNat_of_zero_le c2.1
      have h := i_l0 X (by omega) p (by omega) X.length 0 (by omega) (by omega) rfl
      rw [plist0] at h
      refine h.up fun k hk => ?_
      unfold impl_NumsOf.f numT impl_within.f
      rw [if_neg c1, if_pos (show ((p : Nat) : Int) ≥ 0 by omega), decide_eq_true c2.2, if_pos ⟨by omega, c2⟩, Int.toNat_natCast]
      simp only [Option.bind_some, Bool.not_true, impl_NumsOf.j0]
      rw [if_neg (by decide), if_pos (by omega), if_pos (by omega), Int.toNat_natCast]
      exact hk
    · refine Ev.from 1 fun k hk => ?_
      obtain ⟨k, rfl⟩ : ∃ m, k = m + 1 := ⟨k - 1, by omega⟩
      unfold impl_NumsOf.f numT impl_within.f
      rw [if_neg c1]
      by_cases c3 : a ≥ 0
      · rw [if_pos c3, decide_eq_false (by omega), if_neg (fun h => c2 h.2)]
        simp [impl_NumsOf.j0]
      · rw [if_neg c3, if_neg (fun h => c2 h.2)]
        simp [impl_NumsOf.j0]
theorem sNum (X : List Int) (a : Int) : Ev fun k => spec_NumsOf.f k X a = some (numT X a) := by
  by_cases c1 : (X.length : Int) > 64
  · refine Ev.from 1 fun k hk => ?_
    obtain ⟨k, rfl⟩ : ∃ m, k = m + 1 := ⟨k - 1, by omega⟩
    unfold spec_NumsOf.f numT
    rw [if_pos c1, if_neg (by omega)]
    simp [spec_NumsOf.j0]
  · by_cases c2 : 0 ≤ a ∧ a ≤ 16
    · obtain ⟨p, rfl⟩ := Int.eq_ofNat_of_zero_le c2.1
      have h := s_l0 X (by omega) p (by omega) X.length 0 (by omega) (by omega) rfl
      refine h.up fun k hk => ?_
      unfold spec_NumsOf.f numT
      rw [if_neg c1, if_neg (by omega), decide_eq_false (by omega), if_pos ⟨by omega, c2⟩, Int.toNat_natCast]
      simp only [spec_NumsOf.j0]
      rw [if_neg (by decide)]
      exact hk
    · refine Ev.from 1 fun k hk => ?_
      obtain ⟨k, rfl⟩ : ∃ m, k = m + 1 := ⟨k - 1, by omega⟩
      unfold spec_NumsOf.f numT
      rw [if_neg c1]
      by_cases c3 : a < 0
      · rw [if_pos c3, if_neg (fun h => c2 h.2)]
        simp [spec_NumsOf.j0]
      · rw [if_neg c3, decide_eq_true (by omega), if_neg (fun h => c2 h.2)]
        simp [spec_NumsOf.j0]
def selN (m a b : Nat) : Nat := (a &&& m) ||| (b &&& (18446744073709551615 - m))
theorem sel_lt (m a b : Nat) (ha : a < 18446744073709551616) (hb : b < 18446744073709551616) : selN m a b < 18446744073709551616 := by
  have h1 : a &&& m < 18446744073709551616 := Nat.lt_of_le_of_lt Nat.and_le_left ha
  have h2 : b &&& (18446744073709551615 - m) < 18446744073709551616 := Nat.lt_of_le_of_lt Nat.and_le_left hb
  exact Nat.or_lt_two_pow (n := 64) h1 h2
theorem sel_eq (m a b : Nat) (hm : m < 18446744073709551616) (ha : a < 18446744073709551616) (hb : b < 18446744073709551616) : impl_Select.f (m : Int) (a : Int) (b : Int) = some ((selN m a b : Nat) : Int) := by
  have h1 : a &&& m < 18446744073709551616 := Nat.lt_of_le_of_lt Nat.and_le_left ha
  have h2 : b &&& (18446744073709551615 - m) < 18446744073709551616 := Nat.lt_of_le_of_lt Nat.and_le_left hb
  unfold impl_Select.f selN
  rw [bits_and_u64_nat a m ha hm, u64_andNot_nat b m hb hm, bits_or_u64_nat _ _ h1 h2]
theorem sel_bit (m a b j : Nat) (hm : m < 18446744073709551616) (hj : j < 64) : (selN m a b).testBit j = if m.testBit j = true then a.testBit j else b.testBit j := by
  have e : (18446744073709551615 - m).testBit j = !m.testBit j := by
    have := Nat.testBit_two_pow_sub_succ (n := 64) (x := m) hm j
    rw [decide_eq_true hj, Bool.true_and] at this
    rw [← this]
    congr 1
    have h64 : (2 : Nat) ^ 64 = 18446744073709551616 := by decide
    rw [h64]; omega
  unfold selN
  rw [Nat.testBit_or, Nat.testBit_and, Nat.testBit_and, e]
  cases m.testBit j <;> simp
/-- The plane of the lanes whose number is less, by the lowest i planes. -/
def lessTo (a b : List Int) : Nat → Nat
  | 0 => 0
  | i + 1 => selN (pl a i ^^^ pl b i) (pl b i) (lessTo a b i)
theorem lessTo_lt (a b : List Int) (hb : Uu b) : ∀ i, lessTo a b i < 18446744073709551616
  | 0 => by simp [lessTo]
  | i + 1 => sel_lt _ _ _ (rd_pl b hb i).2 (lessTo_lt a b hb i)
theorem xor_lt (x y : Nat) (hx : x < 18446744073709551616) (hy : y < 18446744073709551616) : x ^^^ y < 18446744073709551616 := Nat.xor_lt_two_pow (n := 64) hx hy
theorem lessTo_bit (a b : List Int) (ha : Uu a) (hb : Uu b) (j : Nat) (hj : j < 64) : ∀ i, (lessTo a b i).testBit j = decide (valTo a j i < valTo b j i)
  | 0 => by simp [lessTo, valTo]
  | i + 1 => by
    have h := lessTo_bit a b ha hb j hj i
    have l1 := valTo_lt a j i
    have l2 := valTo_lt b j i
    unfold lessTo
    rw [sel_bit _ _ _ j (xor_lt _ _ (rd_pl a ha i).2 (rd_pl b hb i).2) hj, Nat.testBit_xor, h]
    rw [show valTo a j (i + 1) = (if (pl a i).testBit j = true then valTo a j i + 2 ^ i else valTo a j i) from rfl, show valTo b j (i + 1) = (if (pl b i).testBit j = true then valTo b j i + 2 ^ i else valTo b j i) from rfl]
    generalize 2 ^ i = z at l1 l2 ⊢
    generalize valTo a j i = x at l1 ⊢
    generalize valTo b j i = y at l2 ⊢
    cases (pl a i).testBit j <;> cases (pl b i).testBit j <;> simp <;> omega
theorem less_l0 (a b : List Int) (ha : Uu a) (hb : Uu b) (n : Nat) (hn : n ≤ 16) (hla : a.length = n) (hlb : b.length = n) : ∀ (d k i : Nat), n - i = d → i ≤ n → d < k → impl_numsLess.l0 k a b ((lessTo a b i : Nat) : Int) (n : Int) (i : Int) = some ((lessTo a b n : Nat) : Int) := by
  intro d
  induction d with
  | zero =>
    intro k i hd hi hk
    obtain ⟨k, rfl⟩ : ∃ m, k = m + 1 := ⟨k - 1, by omega⟩
    simp only [impl_numsLess.l0]
    rw [if_neg (by omega), show i = n by omega]
  | succ d ih =>
    intro k i hd hi hk
    obtain ⟨k, rfl⟩ : ∃ m, k = m + 1 := ⟨k - 1, by omega⟩
    have qa := rd_pl a ha i
    have qb := rd_pl b hb i
    simp only [impl_numsLess.l0]
    rw [if_pos (by omega), if_pos (by omega), if_pos (by omega), if_pos (by omega), qa.1, qb.1, bits_xor_u64_nat _ _ qa.2 qb.2, sel_eq _ _ _ (xor_lt _ _ qa.2 qb.2) qb.2 (lessTo_lt a b hb i)]
    simp only [Option.bind_some]
    rw [w_inc i (by omega)]
    exact ih k (i + 1) (by omega) (by omega) (by omega)
theorem less_eq (a b : List Int) (ha : Uu a) (hb : Uu b) (hn : a.length ≤ 16) (he : b.length = a.length) (k : Nat) (hk : a.length < k) : impl_numsLess.f k a b = some ((lessTo a b a.length : Nat) : Int) := by
  unfold impl_numsLess.f
  have := less_l0 a b ha hb a.length hn rfl he a.length k 0 (by omega) (by omega) hk
  simpa [lessTo] using this
def minL (a b : List Int) (m n : Nat) : List Int := (List.range n).map fun (i : Nat) => ((selN m (pl a i) (pl b i) : Nat) : Int)
theorem minL_len (a b : List Int) (m n : Nat) : (minL a b m n).length = n := by simp [minL]
theorem minL_step (a b : List Int) (m n : Nat) (x : List Int) (i : Nat) (hi : i < n) (hx : x.length = n) (h : x.take i = (minL a b m n).take i) : (x.set i ((selN m (pl a i) (pl b i) : Nat) : Int)).take (i + 1) = (minL a b m n).take (i + 1) := by
  rw [List.take_add_one, List.take_add_one, List.take_set_of_le (Nat.le_refl _), h]
  simp [hi, hx, minL]
theorem min_l0 (a b : List Int) (ha : Uu a) (hb : Uu b) (n : Nat) (hn : n ≤ 16) (hla : a.length = n) (hlb : b.length = n) (m : Nat) (hm : m < 18446744073709551616) : ∀ (d k i : Nat) (x : List Int), n - i = d → i ≤ n → d < k → x.length = n → x.take i = (minL a b m n).take i → impl_NumsMin.l0 k a b (m : Int) x (n : Int) (i : Int) = some (minL a b m n) := by
  intro d
  induction d with
  | zero =>
    intro k i x hd hi hk hx h
    obtain ⟨k, rfl⟩ : ∃ m, k = m + 1 := ⟨k - 1, by omega⟩
    rw [List.take_of_length_le (by omega), List.take_of_length_le (by rw [minL_len]; omega)] at h
    simp only [impl_NumsMin.l0]
    rw [if_neg (by omega), h]
  | succ d ih =>
    intro k i x hd hi hk hx h
    obtain ⟨k, rfl⟩ : ∃ m, k = m + 1 := ⟨k - 1, by omega⟩
    have qa := rd_pl a ha i
    have qb := rd_pl b hb i
    simp only [impl_NumsMin.l0]
    rw [if_pos (by omega), if_pos (by omega), if_pos (by omega), if_pos (by omega), qa.1, qb.1, sel_eq m _ _ hm qa.2 qb.2]
    simp only [Option.bind_some]
    rw [if_pos (by omega), Int.toNat_natCast, w_inc i (by omega)]
    exact ih k (i + 1) _ (by omega) (by omega) (by omega) (by simpa using hx) (minL_step a b m n x i (by omega) hx h)
def minR (a b : List Int) : List Int := if a.length = b.length ∧ a.length ≤ 16 then minL a b (lessTo a b a.length) a.length else []
theorem minR_len (a b : List Int) : (minR a b).length ≤ 16 := by
  unfold minR
  split
  · rename_i h; rw [minL_len]; exact h.2
  · simp
theorem iMin (a b : List Int) (ha : Uu a) (hb : Uu b) (k : Nat) (hk : 16 < k) : impl_NumsMin.f k a b = some (minR a b) := by
  unfold impl_NumsMin.f impl_areAlike.f minR
  by_cases c : (a.length : Int) = (b.length : Int)
  · rw [if_pos c]
    simp only [Option.bind_some]
    by_cases c2 : (a.length : Int) ≤ 16
    · rw [decide_eq_true c2, if_pos rfl, if_pos ⟨by omega, by omega⟩, less_eq a b ha hb (by omega) (by omega) k (by omega)]
      simp only [Option.bind_some]
      rw [if_pos (by omega), if_pos (by omega)]
      have := min_l0 a b ha hb a.length (by omega) rfl (by omega) _ (lessTo_lt a b hb a.length) a.length k 0 (List.replicate (a.length : Int).toNat 0) (by omega) (by omega) (by omega) (by simp) rfl
      simpa using this
    · rw [decide_eq_false c2, if_neg (by decide), if_neg (fun h => c2 (by omega))]
  · rw [if_neg c]
    simp only [Option.bind_some]
    rw [if_neg (by decide), if_neg (fun h => c (by omega))]
/-- The state of a reader of draws: where it stands, and its seed. -/
def Ok (at_ seed b : Int) : Prop := 0 ≤ at_ ∧ at_ ≤ b ∧ 0 ≤ seed ∧ seed < 65521
def Bytes (l : List Int) : Prop := l.length ≤ 1048576 ∧ ∀ x, x ∈ l → 0 ≤ x ∧ x ≤ 255
theorem Ok.up {a s b b' : Int} (h : Ok a s b) (hb : b ≤ b') : Ok a s b' := ⟨h.1, by have := h.2.1; omega, h.2.2⟩
theorem bytes_of {l : List Int} (h1 : l.length ≤ 1048576) (h2 : ∀ x, x ∈ l → (Lit.int .u8 x).wf = true) : Bytes l := by
  refine ⟨h1, fun x hx => ?_⟩
  have := h2 x hx
  simp [Lit.wf, IntKind.min, IntKind.max, IntKind.signed, IntKind.bits] at this
  omega
theorem rd_byte {l : List Int} (h : Bytes l) (i : Int) : 0 ≤ rd l i ∧ rd l i ≤ 255 := by
  unfold rd
  rw [List.getD_eq_getElem?_getD]
  cases e : l[i.toNat]? with
  | none => simp
  | some x => exact h.2 x (List.mem_of_getElem? e)
theorem tmod_pos {a n : Int} (h0 : 0 ≤ a) (hn : 0 < n) : 0 ≤ Int.tmod a n ∧ Int.tmod a n < n := by
  rw [Int.tmod_eq_emod_of_nonneg h0]
  exact ⟨Int.emod_nonneg _ (by omega), Int.emod_lt_of_pos _ hn⟩
theorem pick_ok {l : List Int} (hl : Bytes l) {a s b : Int} (h : Ok a s b) (hb : b ≤ 1000000000000) (n : Int) :
    ∃ r a' s', spec_l01Cur_pick.f l a s n = some (r, a', s') ∧ 0 ≤ r ∧ (2 ≤ n → r < n) ∧ (n < 2 → r = 0) ∧ Ok a' s' (b + 1) := by
  obtain ⟨h0, h1, h2, h3⟩ := h
  have hlen := hl.1
  unfold spec_l01Cur_pick.f
  by_cases c1 : n < 2
  · rw [if_pos c1]
    exact ⟨0, a, s, rfl, by omega, fun _ => by omega, fun _ => rfl, h0, by omega, h2, h3⟩
  · rw [if_neg c1]
    have w1 : wrap64 (a + 1) = a + 1 := by unfold wrap64; omega
    have w2 : wrap64 (s * 1103) = s * 1103 := by unfold wrap64; omega
    have w3 : wrap64 (s * 1103 + 12345) = s * 1103 + 12345 := by unfold wrap64; omega
    rw [w1, w2, w3]
    have hs := tmod_pos (a := s * 1103 + 12345) (n := 65521) (by omega) (by omega)
    generalize Int.tmod (s * 1103 + 12345) 65521 = s1 at hs
    have hok : Ok (a + 1) s1 (b + 1) := ⟨by omega, by omega, hs.1, hs.2⟩
    by_cases c2 : a < (l.length : Int)
    · rw [if_pos c2, if_pos h0, if_neg (by omega)]
      have hr := rd_byte hl a
      rw [show wrap64 (rd l a) = rd l a from by unfold wrap64; omega]
      have hm := tmod_pos (a := rd l a) (n := n) hr.1 (by omega)
      exact ⟨_, _, _, rfl, hm.1, fun _ => hm.2, fun h => absurd h c1, by omega, by omega, h2, h3⟩
    · rw [if_neg c2]
      by_cases c3 : (l.length : Int) > 0
      · rw [if_pos c3, if_neg (by omega)]
        have hi := tmod_pos (a := a) (n := (l.length : Int)) h0 c3
        rw [if_pos hi.1, if_pos hi.2, if_neg (by omega)]
        have hr := rd_byte hl (Int.tmod a (l.length : Int))
        generalize rd l (Int.tmod a (l.length : Int)) = y at hr
        have hd : 0 ≤ Int.tdiv s1 7 ∧ Int.tdiv s1 7 ≤ 65521 := by
          rw [Int.tdiv_eq_ediv_of_nonneg hs.1]; omega
        generalize Int.tdiv s1 7 = z at hd
        rw [show wrap64 z = z from by unfold wrap64; omega, show wrap64 y = y from by unfold wrap64; omega, show wrap64 (z + y) = z + y from by unfold wrap64; omega]
        have hm := tmod_pos (a := z + y) (n := n) (by omega) (by omega)
        exact ⟨_, _, _, rfl, hm.1, fun _ => hm.2, fun h => absurd h c1, hok⟩
      · rw [if_neg c3, if_neg (by omega)]
        have e : (0 : Int) % n = 0 := Int.zero_emod n
        rw [e]
        exact ⟨_, _, _, rfl, by omega, fun _ => by omega, fun h => absurd h c1, hok⟩
theorem raw_ok {l : List Int} (hl : Bytes l) {a s b : Int} (h : Ok a s b) (hb : b ≤ 900000000000) :
    ∃ r a' s', spec_l01Cur_raw.f l a s = some (r, a', s') ∧ (-9223372036854775808 ≤ r ∧ r ≤ 9223372036854775807) ∧ Ok a' s' (b + 2) := by
  obtain ⟨r1, a1, s1, e1, k1, k2, _, o1⟩ := pick_ok hl h (by omega) 8
  unfold spec_l01Cur_raw.f
  rw [e1]
  simp only [Option.bind_some]
  by_cases c1 : r1 = 0
  · rw [if_pos c1]
    obtain ⟨r2, a2, s2, e2, k3, k4, _, o2⟩ := pick_ok hl o1 (by omega) 256
    rw [e2]
    have := k4 (by omega)
    exact ⟨_, _, _, rfl, by rw [show wrap64 (r2 - 128) = r2 - 128 from by unfold wrap64; omega]; omega, o2.up (by omega)⟩
  · rw [if_neg c1]
    by_cases c2 : r1 = 1
    · rw [if_pos c2]
      obtain ⟨r2, a2, s2, e2, k3, k4, _, o2⟩ := pick_ok hl o1 (by omega) 8
      simp only [e2, Option.bind_some]
      rw [if_pos k3, if_pos (by have := k4 (by omega); simpa using this)]
      refine ⟨_, _, _, rfl, ?_, o2.up (by omega)⟩
      have k5 := k4 (by omega)
      have h8 : r2 = 0 ∨ r2 = 1 ∨ r2 = 2 ∨ r2 = 3 ∨ r2 = 4 ∨ r2 = 5 ∨ r2 = 6 ∨ r2 = 7 := by omega
      rcases h8 with rfl | rfl | rfl | rfl | rfl | rfl | rfl | rfl <;> decide
    · rw [if_neg c2]
      obtain ⟨r2, a2, s2, e2, k3, k4, _, o2⟩ := pick_ok hl o1 (by omega) 14
      rw [e2]
      have := k4 (by omega)
      exact ⟨_, _, _, rfl, by rw [show wrap64 (r2 - 3) = r2 - 3 from by unfold wrap64; omega]; omega, o2.up (by omega)⟩
theorem open_ok {l : List Int} (hl : Bytes l) : ∃ s, spec_l01Open.f l = some (l, 0, s) ∧ Ok 0 s 0 := by
  refine ⟨_, rfl, by omega, by omega, ?_, ?_⟩ <;> omega
theorem shr_uL (v j : Nat) (h : j ≤ 64) : shr .u64 (v : Int) (j : Int) = ((v / 2 ^ j : Nat) : Int) := by
  unfold shr
  rw [Int.toNat_natCast, show min j IntKind.u64.bits = j from Nat.min_eq_left h, Int.natCast_ediv, Int.natCast_pow]; rfl
theorem or_i64 (x y : Nat) (hx : x < 4294967296) (hy : y < 4294967296) : Go.bits .or .i64 (x : Int) (y : Int) = ((x ||| y : Nat) : Int) := by
  have h1 : (BitVec.ofInt 64 (x : Int)).toNat = x := by
    rw [BitVec.ofInt_natCast, BitVec.toNat_ofNat]; exact Nat.mod_eq_of_lt (by omega)
  have h2 : (BitVec.ofInt 64 (y : Int)).toNat = y := by
    rw [BitVec.ofInt_natCast, BitVec.toNat_ofNat]; exact Nat.mod_eq_of_lt (by omega)
  show IntKind.i64.wrap ((BitVec.ofInt 64 (x : Int) ||| BitVec.ofInt 64 (y : Int)).toNat : Int) = _
  rw [BitVec.toNat_or, h1, h2, IntKind.wrap_i64]
  have := Nat.or_lt_two_pow (n := 32) (show x < 2 ^ 32 by omega) (show y < 2 ^ 32 by omega)
  omega
theorem shl_i (b i : Nat) (hi : i ≤ 29) (hb : b ≤ 1) : shl .i64 (wrap64 (b : Int)) (i : Int) = ((b * 2 ^ i : Nat) : Int) := by
  have hpi : 2 ^ i ≤ 536870912 := Nat.le_trans (Nat.pow_le_pow_right (by omega) hi) (by decide)
  have e1 : wrap64 (b : Int) = (b : Int) := by clear hpi; unfold wrap64; omega
  unfold shl
  rw [e1, Int.toNat_natCast, show min i IntKind.i64.bits = i from Nat.min_eq_left (show i ≤ 64 by omega), IntKind.wrap_i64]
  have e3 : (b : Int) * 2 ^ i = ((b * 2 ^ i : Nat) : Int) := by rw [Int.natCast_mul, Int.natCast_pow]; rfl
  rw [e3]
  have h2 : b * 2 ^ i ≤ 536870912 := Nat.le_trans (Nat.mul_le_mul_right _ hb) (by rw [Nat.one_mul]; exact hpi)
  clear hpi e3 e1
  generalize b * 2 ^ i = z at h2 ⊢
  omega
theorem or_step (v b i : Nat) (hv : v < 2 ^ i) (hi : i ≤ 29) (hb : b ≤ 1) : Go.bits .or .i64 (v : Int) (shl .i64 (wrap64 (b : Int)) (i : Int)) = (((if decide (b = 1) = true then v + 2 ^ i else v) : Nat) : Int) := by
  have hpi : 2 ^ i ≤ 536870912 := Nat.le_trans (Nat.pow_le_pow_right (by omega) hi) (by decide)
  have hv2 : v < 4294967296 := Nat.lt_of_lt_of_le hv (Nat.le_trans hpi (by decide))
  rw [shl_i b i hi hb]
  match b, hb with
  | 0, _ =>
    rw [Nat.zero_mul, or_i64 v 0 hv2 (by decide), Nat.or_zero]; rfl
  | 1, _ =>
    rw [Nat.one_mul, or_i64 v _ hv2 (Nat.lt_of_le_of_lt hpi (by decide)), or_pow _ _ hv]; rfl
theorem and_bit (v j : Nat) (hv : v < 18446744073709551616) (hj : j < 64) : Go.bits .and .u64 (shr .u64 (v : Int) (j : Int)) 1 = ((v / 2 ^ j % 2 : Nat) : Int) := by
  have hle : v / 2 ^ j ≤ v := Nat.div_le_self _ _
  rw [shr_uL _ j (by omega), show (1 : Int) = ((1 : Nat) : Int) from rfl, bits_and_u64_nat (v / 2 ^ j) 1 (Nat.lt_of_le_of_lt hle hv) (by decide), Nat.and_one_is_mod]
theorem laneOf_l0 (l : List Int) (hu : Uu l) (hl : l.length ≤ 30) (j : Nat) (hj : j < 64) : ∀ (d k i : Nat), l.length - i = d → i ≤ l.length → d < k → impl_laneOf.l0 k (j : Int) ((valTo l j i : Nat) : Int) l (l.length : Int) (i : Int) = some ((valTo l j l.length : Nat) : Int) := by
  intro d
  induction d with
  | zero =>
    intro k i hd hi hk
    obtain ⟨k, rfl⟩ : ∃ m, k = m + 1 := ⟨k - 1, by omega⟩
    simp only [impl_laneOf.l0]
    rw [if_neg (by omega), show i = l.length by omega]
  | succ d ih =>
    intro k i hd hi hk
    obtain ⟨k, rfl⟩ : ∃ m, k = m + 1 := ⟨k - 1, by omega⟩
    have q := rd_pl l hu i
    have hnew : Go.bits .or .i64 ((valTo l j i : Nat) : Int) (shl .i64 (wrap64 (Go.bits .and .u64 (shr .u64 (rd l (i : Int)) (j : Int)) 1)) (i : Int)) = ((valTo l j (i + 1) : Nat) : Int) := by
      rw [q.1, and_bit _ j q.2 hj, or_step _ _ i (valTo_lt l j i) (by omega) (Nat.le_of_lt_succ (Nat.mod_lt _ (by decide))), ← tb]
      rfl
    simp only [impl_laneOf.l0]
    rw [if_pos (by omega), if_pos (by omega), if_pos (by omega), if_pos (by omega), hnew, w_inc i (by omega)]
    exact ih k (i + 1) (by omega) (by omega) (by omega)
theorem laneOf_eq (l : List Int) (hu : Uu l) (hl : l.length ≤ 30) (j : Nat) (hj : j < 64) (k : Nat) (hk : l.length < k) : impl_laneOf.f k l (j : Int) = some ((valTo l j l.length : Nat) : Int) := by
  unfold impl_laneOf.f
  have := laneOf_l0 l hu hl j hj l.length k 0 (by omega) (by omega) hk
  simpa [valTo] using this
/-- What a lane of the planes of a list holds. -/
theorem val_plist (X : List Int) (p j : Nat) (hb : pl X j < 2 ^ p) : valTo (plist X p X.length) j p = pl X j := by
  apply Nat.eq_of_testBit_eq
  intro k
  rw [valTo_bit]
  by_cases c : k < p
  · have e : pl (plist X p X.length) k = valTo X k X.length := by
      unfold pl
      have : rd (plist X p X.length) (k : Int) = ((valTo X k X.length : Nat) : Int) := by
        simp [rd, plist, c]
      rw [this, Int.toNat_natCast]
    rw [decide_eq_true c, Bool.true_and, e, valTo_bit]
    by_cases d : j < X.length
    · rw [decide_eq_true d, Bool.true_and]
    · rw [decide_eq_false d, Bool.false_and]
      have : pl X j = 0 := by
        unfold pl
        simp [rd, List.getElem?_eq_none (Nat.le_of_not_lt d)]
      rw [this]; simp
  · rw [decide_eq_false c, Bool.false_and]
    exact (Nat.testBit_lt_two_pow (Nat.lt_of_lt_of_le hb (Nat.pow_le_pow_right (by omega) (by omega)))).symm
/-- The carries of a sum in planes. -/
def carryN (a b : List Int) : Nat → Nat
  | 0 => 0
  | i + 1 => (pl a i &&& pl b i) ||| (carryN a b i &&& (pl a i ^^^ pl b i))
theorem carry_lt (a b : List Int) (ha : Uu a) (hb : Uu b) : ∀ i, carryN a b i < 18446744073709551616
  | 0 => by simp [carryN]
  | i + 1 => by
    unfold carryN
    refine Nat.or_lt_two_pow (n := 64) ?_ ?_
    · exact Nat.lt_of_le_of_lt Nat.and_le_left (rd_pl a ha i).2
    · exact Nat.lt_of_le_of_lt Nat.and_le_left (carry_lt a b ha hb i)
def addN (a b : List Int) (i : Nat) : Nat := (pl a i ^^^ pl b i) ^^^ carryN a b i
def addL (a b : List Int) (n : Nat) : List Int := (List.range n).map fun (i : Nat) => ((addN a b i : Nat) : Int)
theorem addL_len (a b : List Int) (n : Nat) : (addL a b n).length = n := by simp [addL]
theorem addL_pl (a b : List Int) (n i : Nat) (h : i < n) : pl (addL a b n) i = addN a b i := by
  unfold pl
  have : rd (addL a b n) (i : Int) = ((addN a b i : Nat) : Int) := by simp [rd, addL, h]
  rw [this, Int.toNat_natCast]
theorem addN_lt (a b : List Int) (ha : Uu a) (hb : Uu b) (i : Nat) : addN a b i < 18446744073709551616 := xor_lt _ _ (xor_lt _ _ (rd_pl a ha i).2 (rd_pl b hb i).2) (carry_lt a b ha hb i)
theorem add_lane (a b : List Int) (n j : Nat) : ∀ i, i ≤ n → valTo (addL a b n) j i + (if (carryN a b i).testBit j = true then 2 ^ i else 0) = valTo a j i + valTo b j i
  | 0, _ => by simp [valTo, carryN]
  | i + 1, h => by
    have ih := add_lane a b n j i (by omega)
    rw [show valTo (addL a b n) j (i + 1) = (if (pl (addL a b n) i).testBit j = true then valTo (addL a b n) j i + 2 ^ i else valTo (addL a b n) j i) from rfl, addL_pl a b n i (by omega)]
    rw [show valTo a j (i + 1) = (if (pl a i).testBit j = true then valTo a j i + 2 ^ i else valTo a j i) from rfl, show valTo b j (i + 1) = (if (pl b i).testBit j = true then valTo b j i + 2 ^ i else valTo b j i) from rfl]
    rw [show carryN a b (i + 1) = (pl a i &&& pl b i) ||| (carryN a b i &&& (pl a i ^^^ pl b i)) from rfl]
    unfold addN
    rw [Nat.testBit_xor, Nat.testBit_xor, Nat.testBit_or, Nat.testBit_and, Nat.testBit_and, Nat.testBit_xor, Nat.pow_succ]
    revert ih
    generalize 2 ^ i = z
    generalize valTo (addL a b n) j i = u
    generalize valTo a j i = x
    generalize valTo b j i = y
    cases (pl a i).testBit j <;> cases (pl b i).testBit j <;> cases (carryN a b i).testBit j <;> simp <;> omega
theorem add_mod (a b : List Int) (n j : Nat) : valTo (addL a b n) j n = (valTo a j n + valTo b j n) % 2 ^ n := by
  have h := add_lane a b n j n (Nat.le_refl n)
  have hl := valTo_lt (addL a b n) j n
  rw [← h]
  split
  · rw [Nat.add_mod_right, Nat.mod_eq_of_lt hl]
  · rw [Nat.add_zero, Nat.mod_eq_of_lt hl]
theorem addL_u (a b : List Int) (ha : Uu a) (hb : Uu b) (n : Nat) : Uu (addL a b n) := by
  intro x hx
  obtain ⟨i, _, rfl⟩ := List.mem_map.1 hx
  have := addN_lt a b ha hb i
  omega
theorem add_l0 (a b : List Int) (ha : Uu a) (hb : Uu b) (n : Nat) (hn : n ≤ 16) (hla : a.length = n) (hlb : b.length = n) : ∀ (d k i : Nat) (x : List Int), n - i = d → i ≤ n → d < k → x.length = n → x.take i = (addL a b n).take i → impl_NumsAdd.l0 k a b x ((carryN a b i : Nat) : Int) (n : Int) (i : Int) = some (addL a b n) := by
  intro d
  induction d with
  | zero =>
    intro k i x hd hi hk hx h
    obtain ⟨k, rfl⟩ : ∃ m, k = m + 1 := ⟨k - 1, by omega⟩
    rw [List.take_of_length_le (by omega), List.take_of_length_le (by rw [addL_len]; omega)] at h
    simp only [impl_NumsAdd.l0]
    rw [if_neg (by omega), h]
  | succ d ih =>
    intro k i x hd hi hk hx h
    obtain ⟨k, rfl⟩ : ∃ m, k = m + 1 := ⟨k - 1, by omega⟩
    have hlt : i < n := by omega
    have qa := rd_pl a ha i
    have qb := rd_pl b hb i
    have qc := carry_lt a b ha hb i
    have q1 : (pl a i &&& pl b i) < 18446744073709551616 := Nat.lt_of_le_of_lt Nat.and_le_left qa.2
    have q2 : (carryN a b i &&& (pl a i ^^^ pl b i)) < 18446744073709551616 := Nat.lt_of_le_of_lt Nat.and_le_left qc
    simp only [impl_NumsAdd.l0]
    rw [if_pos (by omega), if_pos (by omega), if_pos (by omega), if_pos (by omega), if_pos (by omega), qa.1, qb.1, bits_xor_u64_nat _ _ qa.2 qb.2, bits_xor_u64_nat _ _ (xor_lt _ _ qa.2 qb.2) qc, bits_and_u64_nat _ _ qa.2 qb.2, bits_and_u64_nat _ _ qc (xor_lt _ _ qa.2 qb.2), bits_or_u64_nat _ _ q1 q2, Int.toNat_natCast, w_inc i (by omega)]
    have hlen2 : i < (addL a b n).length := by rw [addL_len]; exact hlt
    refine ih k (i + 1) _ (by omega) (by omega) (by omega) (by simpa using hx) ?_
    rw [List.take_add_one, List.take_add_one, List.take_set_of_le (Nat.le_refl _), h]
    simp [hx, hlt, addL, addN]
theorem iAdd (a b : List Int) (ha : Uu a) (hb : Uu b) (n : Nat) (hn : n ≤ 16) (hla : a.length = n) (hlb : b.length = n) (k : Nat) (hk : 16 < k) : impl_NumsAdd.f k a b = some (addL a b n) := by
  unfold impl_NumsAdd.f impl_areAlike.f
  rw [if_pos (by omega)]
  simp only [Option.bind_some]
  rw [decide_eq_true (by omega), if_pos rfl, if_pos (by omega), if_pos (by omega)]
  have := add_l0 a b ha hb n hn hla hlb n k 0 (List.replicate n 0) (by omega) (by omega) (by omega) (by simp) rfl
  simpa [hla, carryN] using this
theorem iLess (a b : List Int) (ha : Uu a) (hb : Uu b) (n : Nat) (hn : n ≤ 16) (hla : a.length = n) (hlb : b.length = n) (k : Nat) (hk : 16 < k) : impl_NumsLess.f k a b = some ((lessTo a b n : Nat) : Int) := by
  unfold impl_NumsLess.f impl_areAlike.f
  rw [if_pos (by omega)]
  simp only [Option.bind_some]
  rw [decide_eq_true (by omega), if_pos rfl, less_eq a b ha hb (by omega) (by omega) k (by omega), hla]
  rfl
theorem minL_pl (a b : List Int) (m n i : Nat) (h : i < n) : pl (minL a b m n) i = selN m (pl a i) (pl b i) := by
  unfold pl
  have : rd (minL a b m n) (i : Int) = ((selN m (pl a i) (pl b i) : Nat) : Int) := by simp [rd, minL, h, pl]
  rw [this, Int.toNat_natCast]
  rfl
theorem minL_u (a b : List Int) (ha : Uu a) (hb : Uu b) (m n : Nat) : Uu (minL a b m n) := by
  intro x hx
  obtain ⟨i, _, rfl⟩ := List.mem_map.1 hx
  have := sel_lt m _ _ (rd_pl a ha i).2 (rd_pl b hb i).2
  omega
theorem min_lane (a b : List Int) (m n j : Nat) (hm : m < 18446744073709551616) (hj : j < 64) : ∀ i, i ≤ n → valTo (minL a b m n) j i = if m.testBit j = true then valTo a j i else valTo b j i
  | 0, _ => by simp [valTo]
  | i + 1, h => by
    have ih := min_lane a b m n j hm hj i (by omega)
    rw [show valTo (minL a b m n) j (i + 1) = (if (pl (minL a b m n) i).testBit j = true then valTo (minL a b m n) j i + 2 ^ i else valTo (minL a b m n) j i) from rfl, minL_pl a b m n i (by omega), ih, sel_bit m _ _ j hm hj]
    rw [show valTo a j (i + 1) = (if (pl a i).testBit j = true then valTo a j i + 2 ^ i else valTo a j i) from rfl, show valTo b j (i + 1) = (if (pl b i).testBit j = true then valTo b j i + 2 ^ i else valTo b j i) from rfl]
    cases m.testBit j <;> simp
theorem plist_u (X : List Int) (p : Nat) (h : X.length ≤ 64) : Uu (plist X p X.length) := by
  intro x hx
  obtain ⟨i, _, rfl⟩ := List.mem_map.1 hx
  have h1 := valTo_lt X i X.length
  have h2 : 2 ^ X.length ≤ 2 ^ 64 := Nat.pow_le_pow_right (by omega) h
  have h3 : (2 : Nat) ^ 64 = 18446744073709551616 := by decide
  omega
theorem iAt (l : List Int) (hu : Uu l) (hl : l.length ≤ 16) (j : Nat) (hj : j < 64) (k : Nat) (hk : 16 < k) : impl_NumAt.f k l (j : Int) = some ((valTo l j l.length : Nat) : Int) := by
  unfold impl_NumAt.f impl_within.f
  rw [if_pos (show (j : Int) ≥ 0 by omega), decide_eq_true (show (j : Int) ≤ 63 by omega)]
  simp only [Option.bind_some]
  rw [if_pos trivial, if_neg (by omega), laneOf_eq l hu (by omega) j hj k (by omega)]
  rfl
theorem mn_nat (x y : Nat) : mn (x : Int) (y : Int) = (((if decide (x < y) = true then x else y) : Nat) : Int) := by
  unfold mn
  by_cases c : x < y
  · rw [decide_eq_true c]; simp only [if_true]; split <;> omega
  · rw [decide_eq_false c]; simp only [Bool.false_eq_true, if_false]; split <;> omega
/-- Both lists' numbers fit the planes. -/
theorem lanes (X Y : List Int) (p : Nat) (hp : p ≤ 16) (hX : X.length ≤ 64) (hY : Y.length ≤ 64) (bX : ∀ j : Nat, 0 ≤ rd X (j : Int) ∧ rd X (j : Int) < ((2 ^ p : Nat) : Int)) (bY : ∀ j : Nat, 0 ≤ rd Y (j : Int) ∧ rd Y (j : Int) < ((2 ^ p : Nat) : Int)) :
    ∀ (d k j : Nat), 64 - j = d → j ≤ 64 → 3 * d + 40 < k → laws_FnNums.l3 k X ((2 ^ p : Nat) : Int) Y (plist X p X.length) (addL (plist X p X.length) (plist Y p Y.length) p) (minL (plist X p X.length) (plist Y p Y.length) (lessTo (plist X p X.length) (plist Y p Y.length) p) p) ((lessTo (plist X p X.length) (plist Y p Y.length) p : Nat) : Int) (j : Int) = some true := by
  have hpp : 2 ^ p ≤ 65536 := Nat.le_trans (Nat.pow_le_pow_right (by omega) hp) (by decide)
  have hp0 := Nat.two_pow_pos p
  have ux := plist_u X p hX
  have uy := plist_u Y p hY
  have lx := plist_len X p X.length
  have ly := plist_len Y p Y.length
  have rx : ∀ j : Nat, rd X (j : Int) = ((pl X j : Nat) : Int) ∧ pl X j < 2 ^ p := by
    intro j; have := bX j; unfold pl; omega
  have ry : ∀ j : Nat, rd Y (j : Int) = ((pl Y j : Nat) : Int) ∧ pl Y j < 2 ^ p := by
    intro j; have := bY j; unfold pl; omega
  have vx : ∀ j, valTo (plist X p X.length) j p = pl X j := fun j => val_plist X p j (rx j).2
  have vy : ∀ j, valTo (plist Y p Y.length) j p = pl Y j := fun j => val_plist Y p j (ry j).2
  generalize plist X p X.length = x at *
  generalize plist Y p Y.length = y at *
  have hL := lessTo_lt x y uy p
  intro d
  induction d with
  | zero =>
    intro k j hd hj hk
    obtain ⟨k, rfl⟩ : ∃ m, k = m + 1 := ⟨k - 1, by omega⟩
    simp only [laws_FnNums.l3]
    rw [if_neg (by omega)]
  | succ d ih =>
    intro k j hd hj hk
    obtain ⟨k, rfl⟩ : ∃ m, k = m + 3 := ⟨k - 3, by omega⟩
    have hlt : j < 64 := by omega
    have h7 : laws_FnNums.j7 (k + 1) X ((2 ^ p : Nat) : Int) Y x (addL x y p) (minL x y (lessTo x y p) p) ((lessTo x y p : Nat) : Int) (j : Int) ((pl X j : Nat) : Int) ((pl Y j : Nat) : Int) = some true := by
      have e0 : IntKind.u64.wrap (j : Int) = (j : Int) := by rw [IntKind.wrap_u64]; omega
      have h1 := iAt x ux (by omega) j hlt k (by omega)
      have h2 := iAt (addL x y p) (addL_u x y ux uy p) (by rw [addL_len]; omega) j hlt k (by omega)
      have h3 := iAt (minL x y (lessTo x y p) p) (minL_u x y ux uy _ p) (by rw [minL_len]; omega) j hlt k (by omega)
      rw [lx, vx j] at h1
      rw [addL_len, add_mod, vx, vy] at h2
      rw [minL_len, min_lane x y _ p j hL hlt p (Nat.le_refl p), lessTo_bit x y ux uy j hlt p, vx, vy] at h3
      have hb := lessTo_bit x y ux uy j hlt p
      rw [vx, vy] at hb
      have q1 := (rx j).2
      have q2 := (ry j).2
      have hbit : (wrap64 (Go.bits .and .u64 (shr .u64 ((lessTo x y p : Nat) : Int) (IntKind.u64.wrap (j : Int))) 1) == 1) = decide (pl X j < pl Y j) := by
        rw [e0, and_bit _ j hL hlt, ← hb, tb]
        have hz : lessTo x y p / 2 ^ j % 2 ≤ 1 := Nat.le_of_lt_succ (Nat.mod_lt _ (by decide))
        generalize lessTo x y p / 2 ^ j % 2 = z at hz
        match z, hz with
        | 0, _ => unfold wrap64; decide
        | 1, _ => unfold wrap64; decide
      have hmod : Int.tmod (wrap64 (((pl X j : Nat) : Int) + ((pl Y j : Nat) : Int))) ((2 ^ p : Nat) : Int) = (((pl X j + pl Y j) % 2 ^ p : Nat) : Int) := by
        rw [show wrap64 (((pl X j : Nat) : Int) + ((pl Y j : Nat) : Int)) = ((pl X j + pl Y j : Nat) : Int) from by
          revert q1 q2 hpp; generalize 2 ^ p = z; intros; unfold wrap64; omega]
        rfl
      have hmn : mn ((pl X j : Nat) : Int) ((pl Y j : Nat) : Int) = (((if decide (pl X j < pl Y j) = true then pl X j else pl Y j) : Nat) : Int) := mn_nat _ _
      simp only [laws_FnNums.j7]
      rw [if_pos (by rw [e0]; omega), h1]
      simp only [Option.bind_some]
      rw [if_pos trivial, h2]
      simp only [Option.bind_some]
      rw [if_neg (by omega), hmod, if_pos rfl, h3]
      simp only [Option.bind_some]
      have hd2 : decide (((pl X j : Nat) : Int) < ((pl Y j : Nat) : Int)) = decide (pl X j < pl Y j) := by
        by_cases c : pl X j < pl Y j
        · rw [decide_eq_true c, decide_eq_true (by omega)]
        · rw [decide_eq_false c, decide_eq_false (by omega)]
      rw [hmn, if_pos rfl, hbit, hd2, if_neg (by simp), w_inc j (by omega)]
      exact ih k (j + 1) (by omega) (by omega) (by omega)
    have h6 : laws_FnNums.j6 (k + 2) X ((2 ^ p : Nat) : Int) Y x (addL x y p) (minL x y (lessTo x y p) p) ((lessTo x y p : Nat) : Int) (j : Int) ((pl X j : Nat) : Int) 0 = some true := by
      rw [show k + 2 = (k + 1) + 1 from rfl]
      simp only [laws_FnNums.j6]
      by_cases c : (j : Int) < (Y.length : Int)
      · rw [if_pos c, if_pos (by omega), (ry j).1]; exact h7
      · rw [if_neg c]
        have : pl Y j = 0 := by
          unfold pl
          simp [rd, List.getElem?_eq_none (show Y.length ≤ j by omega)]
        rw [this] at h7
        exact h7
    rw [show k + 3 = (k + 2) + 1 from rfl]
    simp only [laws_FnNums.l3]
    rw [if_pos (by omega)]
    by_cases c : (j : Int) < (X.length : Int)
    · rw [if_pos c, if_pos (by omega), (rx j).1]; exact h6
    · rw [if_neg c]
      have : pl X j = 0 := by
        unfold pl
        simp [rd, List.getElem?_eq_none (show X.length ≤ j by omega)]
      rw [this] at h6
      exact h6
def lowF (t : Int) (b : Int) : Int := if Int.tmod b t < 0 then Int.tmod b t + t else Int.tmod b t
theorem lowF_in (b : Int) (z : Nat) (hz : 0 < z) : 0 ≤ lowF (z : Int) b ∧ lowF (z : Int) b < (z : Int) := by
  have h := Int.tmod_lt_of_pos b (show (0 : Int) < (z : Int) by omega)
  have h2 : -(z : Int) < Int.tmod b z := by
    rcases Int.le_total 0 b with h0 | h0
    · have := Int.tmod_nonneg (z : Int) h0; omega
    · have e : Int.tmod b z = - Int.tmod (-b) z := by rw [Int.neg_tmod, Int.neg_neg]
      have := Int.tmod_lt_of_pos (-b) (show (0 : Int) < (z : Int) by omega)
      omega
  unfold lowF
  split <;> omega
theorem low_l2 (X Y : List Int) (p : Nat) (hp : p ≤ 16) (hY : Y.length ≤ 64) (k0 : Nat) (fin : ∀ k, k0 < k → ∀ (k' : Nat), k' = k → laws_FnNums.l2 (k + 1) X (p : Int) Y ((2 ^ p : Nat) : Int) (Y.map (lowF ((2 ^ p : Nat) : Int))) (Y.length : Int) = some true) :
    ∀ (d k i : Nat), Y.length - i = d → i ≤ Y.length → d + k0 + 1 < k → laws_FnNums.l2 k X (p : Int) Y ((2 ^ p : Nat) : Int) ((Y.take i).map (lowF ((2 ^ p : Nat) : Int))) (i : Int) = some true := by
  have hpp : 2 ^ p ≤ 65536 := Nat.le_trans (Nat.pow_le_pow_right (by omega) hp) (by decide)
  have hp0 := Nat.two_pow_pos p
  intro d
  induction d with
  | zero =>
    intro k i hd hi hk
    obtain ⟨k, rfl⟩ : ∃ m, k = m + 1 := ⟨k - 1, by omega⟩
    rw [List.take_of_length_le (by omega), show i = Y.length by omega]
    exact fin k (by omega) k rfl
  | succ d ih =>
    intro k i hd hi hk
    obtain ⟨k, rfl⟩ : ∃ m, k = m + 1 := ⟨k - 1, by omega⟩
    have hlt : i < Y.length := by omega
    have hlen : ((Y.take i).map (lowF ((2 ^ p : Nat) : Int))).length = i := by simp; omega
    have er : rd Y (i : Int) = Y[i] := by simp [rd, hlt]
    have hs : (Y.take (i + 1)).map (lowF ((2 ^ p : Nat) : Int)) = (Y.take i).map (lowF ((2 ^ p : Nat) : Int)) ++ [lowF ((2 ^ p : Nat) : Int) (rd Y (i : Int))] := by
      rw [List.take_succ_eq_append_getElem hlt, List.map_append, er]; rfl
    have hin := lowF_in (rd Y (i : Int)) (2 ^ p) hp0
    have step := ih k (i + 1) (by omega) (by omega) (by omega)
    rw [hs] at step
    simp only [laws_FnNums.l2]
    rw [if_pos (by omega), if_pos (by omega), if_neg (by omega), hlen, w_inc i (by omega)]
    revert hin step
    unfold lowF
    generalize hm : Int.tmod (rd Y (i : Int)) ((2 ^ p : Nat) : Int) = q
    intro hin step
    by_cases c : q < 0
    · rw [if_pos c] at hin step ⊢
      rw [if_pos (by omega), show wrap64 (q + ((2 ^ p : Nat) : Int)) = q + ((2 ^ p : Nat) : Int) from by unfold wrap64; omega]
      exact step
    · rw [if_neg c] at hin step ⊢
      rw [if_pos (by omega)]
      exact step
theorem okAll_rd (X : List Int) (p : Nat) (h : okAll X p X.length = true) (j : Nat) : 0 ≤ rd X (j : Int) ∧ rd X (j : Int) < ((2 ^ p : Nat) : Int) := by
  by_cases c : j < X.length
  · exact (okAll_iff X p X.length).1 h j c
  · have e : rd X (j : Int) = 0 := by simp [rd, List.getElem?_eq_none (Nat.le_of_not_lt c)]
    have hp0 := Nat.two_pow_pos p
    rw [e]
    omega
theorem okAll_low (Y : List Int) (p : Nat) : okAll (Y.map (lowF ((2 ^ p : Nat) : Int))) p (Y.map (lowF ((2 ^ p : Nat) : Int))).length = true := by
  rw [okAll_iff]
  intro j hj
  rw [List.length_map] at hj
  have : rd (Y.map (lowF ((2 ^ p : Nat) : Int))) (j : Int) = lowF ((2 ^ p : Nat) : Int) Y[j] := by simp [rd, hj]
  rw [this]
  exact lowF_in _ _ (Nat.two_pow_pos p)
theorem numT_ok (X : List Int) (p : Nat) (hp : p ≤ 16) (hX : X.length ≤ 64) (h : okAll X p X.length = true) : numT X (p : Int) = plist X p X.length := by
  unfold numT numR
  rw [if_pos ⟨hX, by omega, by omega⟩, Int.toNat_natCast, if_pos h]
theorem numT_bad (X : List Int) (p : Nat) (j : Nat) (hj : j < X.length) (h : ¬ (0 ≤ rd X (j : Int) ∧ rd X (j : Int) < ((2 ^ p : Nat) : Int))) : numT X (p : Int) = [] := by
  unfold numT
  split
  · unfold numR
    rw [Int.toNat_natCast, if_neg]
    intro ho
    exact h ((okAll_iff X p X.length).1 ho j hj)
  · rfl
/-- From the drawn lists on. -/
theorem rest (X Y : List Int) (p : Nat) (hp : p ≤ 16) (hX : X.length ≤ 64) (hY : Y.length ≤ 64) : Ev fun k => laws_FnNums.j0 k X (p : Int) Y false = some true := by
  have hpp : 2 ^ p ≤ 65536 := Nat.le_trans (Nat.pow_le_pow_right (by omega) hp) (by decide)
  have hp0 := Nat.two_pow_pos p
  obtain ⟨K1, n1⟩ := iNum X (p : Int)
  obtain ⟨K2, n2⟩ := iNum (Y.map (lowF ((2 ^ p : Nat) : Int))) (p : Int)
  have hLl : (Y.map (lowF ((2 ^ p : Nat) : Int))).length ≤ 64 := by simpa using hY
  have e2 := numT_ok _ p hp hLl (okAll_low Y p)
  obtain ⟨K, hK⟩ : ∃ K, K = K1 + K2 + 400 := ⟨_, rfl⟩
  have fin : okAll X p X.length = true → ∀ k, K < k → laws_FnNums.l2 (k + 1) X (p : Int) Y ((2 ^ p : Nat) : Int) (Y.map (lowF ((2 ^ p : Nat) : Int))) (Y.length : Int) = some true := by
    intro ho k hk
    obtain ⟨k, rfl⟩ : ∃ m, k = m + 1 := ⟨k - 1, by omega⟩
    have e1 := numT_ok X p hp hX ho
    have l1 := plist_len X p X.length
    have l2 := plist_len (Y.map (lowF ((2 ^ p : Nat) : Int))) p (Y.map (lowF ((2 ^ p : Nat) : Int))).length
    have hln := lanes X (Y.map (lowF ((2 ^ p : Nat) : Int))) p hp hX hLl (okAll_rd X p ho) (okAll_rd _ p (okAll_low Y p)) 64 k 0 (by omega) (by omega) (by omega)
    simp only [laws_FnNums.l2]
    rw [if_neg (by omega), n1 _ (by omega), e1]
    simp only [Option.bind_some]
    rw [n2 _ (by omega), e2]
    simp only [Option.bind_some]
    have ux := plist_u X p hX
    have uy := plist_u _ p hLl
    rw [if_pos (by rw [l1]), show (((plist (Y.map (lowF ((2 ^ p : Nat) : Int))) p (Y.map (lowF ((2 ^ p : Nat) : Int))).length).length : Int) != (p : Int)) = false by rw [l2]; simp]
    simp only [laws_FnNums.j4]
    rw [if_neg (by decide), iAdd _ _ ux uy p hp l1 l2 _ (by omega)]
    simp only [Option.bind_some]
    rw [iMin _ _ ux uy _ (by omega), iLess _ _ ux uy p hp l1 l2 _ (by omega)]
    simp only [Option.bind_some]
    have em : minR (plist X p X.length) (plist (Y.map (lowF ((2 ^ p : Nat) : Int))) p (Y.map (lowF ((2 ^ p : Nat) : Int))).length) = minL (plist X p X.length) (plist (Y.map (lowF ((2 ^ p : Nat) : Int))) p (Y.map (lowF ((2 ^ p : Nat) : Int))).length) (lessTo (plist X p X.length) (plist (Y.map (lowF ((2 ^ p : Nat) : Int))) p (Y.map (lowF ((2 ^ p : Nat) : Int))).length) p) p := by
      unfold minR
      rw [if_pos ⟨by rw [l1, l2], by omega⟩, l1]
    rw [em]
    exact hln
  have hl1 : ∀ (d k i : Nat), X.length - i = d → i ≤ X.length → okAll X p i = true → d + K + 100 < k → laws_FnNums.l1 k X (p : Int) Y ((2 ^ p : Nat) : Int) (i : Int) = some true := by
    intro d
    induction d with
    | zero =>
      intro k i hd hi ho hk
      obtain ⟨k, rfl⟩ : ∃ m, k = m + 1 := ⟨k - 1, by omega⟩
      have e : i = X.length := by omega
      subst e
      simp only [laws_FnNums.l1]
      rw [if_neg (by omega)]
      exact low_l2 X Y p hp hY K (fun k hk k' _ => fin ho k hk) Y.length k 0 (by omega) (by omega) (by omega)
    | succ d ih =>
      intro k i hd hi ho hk
      obtain ⟨k, rfl⟩ : ∃ m, k = m + 1 := ⟨k - 1, by omega⟩
      have hlt : i < X.length := by omega
      simp only [laws_FnNums.l1]
      rw [if_pos (by omega), if_pos (by omega)]
      by_cases c1 : rd X (i : Int) < 0
      · rw [if_pos c1, n1 _ (by omega), numT_bad X p i hlt (by omega)]; rfl
      · rw [if_neg c1]
        by_cases c2 : rd X (i : Int) ≥ ((2 ^ p : Nat) : Int)
        · rw [if_pos c2, n1 _ (by omega), numT_bad X p i hlt (by omega)]; rfl
        · rw [if_neg c2, w_inc i (by omega)]
          refine ih k (i + 1) (by omega) (by omega) ?_ (by omega)
          unfold okAll
          rw [ho, decide_eq_true (by omega), decide_eq_true (by omega)]; rfl
  have hl0 : ∀ (d k i : Nat), p - i = d → i ≤ p → d + K + 300 < k → laws_FnNums.l0 k X (p : Int) Y ((2 ^ i : Nat) : Int) (i : Int) = some true := by
    intro d
    induction d with
    | zero =>
      intro k i hd hi hk
      obtain ⟨k, rfl⟩ : ∃ m, k = m + 1 := ⟨k - 1, by omega⟩
      simp only [laws_FnNums.l0]
      rw [if_neg (by omega), show i = p by omega]
      exact hl1 X.length k 0 (by omega) (by omega) rfl (by omega)
    | succ d ih =>
      intro k i hd hi hk
      obtain ⟨k, rfl⟩ : ∃ m, k = m + 1 := ⟨k - 1, by omega⟩
      have hpi : 2 ^ (i + 1) ≤ 65536 := Nat.le_trans (Nat.pow_le_pow_right (by omega) (show i + 1 ≤ 16 by omega)) (by decide)
      have e : 2 ^ (i + 1) = 2 * 2 ^ i := by rw [Nat.pow_succ, Nat.mul_comm]
      simp only [laws_FnNums.l0]
      rw [if_pos (by omega), w_inc i (by omega), w_dbl (2 ^ i) (by omega), ← e]
      exact ih k (i + 1) (by omega) (by omega) (by omega)
  refine Ev.from (K + 400) fun k hk => ?_
  obtain ⟨k, rfl⟩ : ∃ m, k = m + 1 := ⟨k - 1, by omega⟩
  simp only [laws_FnNums.j0]
  rw [if_neg (by decide)]
  exact hl0 p k 0 (by omega) (by omega) (by omega)
theorem wide_ok {l : List Int} (hl : Bytes l) {a s b : Int} (h : Ok a s b) (hb : b ≤ 800000000000) (n : Int) (hn : 0 < n) :
    ∃ r a' s', spec_l01Cur_wide.f l a s n = some (r, a', s') ∧ Ok a' s' (b + 3) := by
  unfold spec_l01Cur_wide.f
  obtain ⟨r1, a1, s1, e1, _, _, _, o1⟩ := pick_ok hl h (by omega) 256
  rw [e1]
  simp only [Option.bind_some]
  obtain ⟨r2, a2, s2, e2, _, _, _, o2⟩ := pick_ok hl o1 (by omega) 256
  rw [e2]
  simp only [Option.bind_some]
  obtain ⟨r3, a3, s3, e3, _, _, _, o3⟩ := pick_ok hl o2 (by omega) 256
  rw [e3]
  simp only [Option.bind_some]
  rw [if_neg (by omega)]
  exact ⟨_, _, _, rfl, o3.up (by omega)⟩
theorem size20_ok {l : List Int} (hl : Bytes l) {a s b : Int} (h : Ok a s b) (hb : b ≤ 900000000000) :
    ∃ (n : Nat) (a' s' : Int), spec_l01Cur_size.f l a s 20 = some ((n : Int), a', s') ∧ n ≤ 20 ∧ Ok a' s' (b + 1) := by
  unfold spec_l01Cur_size.f
  have hlen := hl.1
  have hd : 0 ≤ (l.length : Int) / 8 ∧ (l.length : Int) / 8 ≤ 1048576 := by omega
  generalize (l.length : Int) / 8 = q at hd
  rw [show wrap64 q = q from by unfold wrap64; omega, show wrap64 (1 + q) = 1 + q from by unfold wrap64; omega]
  have hm : 1 ≤ mn 20 (1 + q) ∧ mn 20 (1 + q) ≤ 20 := by unfold mn; split <;> omega
  generalize mn 20 (1 + q) = m at hm
  rw [show wrap64 (m + 1) = m + 1 from by unfold wrap64; omega]
  obtain ⟨r, a1, s1, e1, k1, k2, k3, o1⟩ := pick_ok hl h (by omega) (m + 1)
  rw [e1]
  simp only [Option.bind_some]
  have := k2 (by omega)
  obtain ⟨n, rfl⟩ := Int.eq_ofNat_of_zero_le k1
  exact ⟨n, a1, s1, rfl, by omega, o1⟩
theorem draw_l0 {l : List Int} (hl : Bytes l) (p : Nat) (hp : p ≤ 16) : ∀ (d k : Nat) (x : List Int) (a s b : Int), Ok a s b → b + 10 * (d : Int) ≤ 300000000000 → x.length + d ≤ 50 → d + 30 < k →
    ∃ X q, spec_DrawNumsOf.l0 k (p : Int) x (d : Int) l a s = some (X, q) ∧ X.length ≤ 100 := by
  have hpp : 2 ^ p ≤ 65536 := Nat.le_trans (Nat.pow_le_pow_right (by omega) hp) (by decide)
  have hp0 := Nat.two_pow_pos p
  intro d
  induction d with
  | zero =>
    intro k x a s b h hb hx hk
    obtain ⟨k, rfl⟩ : ∃ m, k = m + 1 := ⟨k - 1, by omega⟩
    simp only [spec_DrawNumsOf.l0]
    rw [if_neg (by omega)]
    obtain ⟨r1, a1, s1, e1, k1, k2, _, o1⟩ := pick_ok hl h (by omega) 9
    rw [e1, Option.bind_some]
    dsimp only
    by_cases c0 : r1 = 0
    · rw [if_pos c0]
      obtain ⟨r2, a2, s2, e2, _, o2⟩ := raw_ok hl o1 (by omega)
      rw [e2, Option.bind_some]
      dsimp only
      rw [Option.bind_some]
      obtain ⟨r3, a3, s3, e3, k3, k4, _, o3⟩ := pick_ok hl o2 (by omega) 2
      rw [e3, Option.bind_some]
      dsimp only
      have := k4 (by omega)
      rw [if_pos k3, if_pos (by simpa using this)]
      exact ⟨_, _, rfl, by omega⟩
    · rw [if_neg c0]
      by_cases c1 : r1 = 1
      · rw [if_pos c1]
        obtain ⟨r2, a2, s2, e2, _, o2⟩ := raw_ok hl o1 (by omega)
        rw [e2, Option.bind_some]
        dsimp only
        have em : mx 0 (mn 16 (p : Int)) = (p : Int) := by unfold mx mn; split <;> split <;> omega
        rw [em, pow_eq p hp k (by omega), Option.bind_some, Option.bind_some]
        obtain ⟨r3, a3, s3, e3, k3, k4, _, o3⟩ := pick_ok hl o2 (by omega) 2
        rw [e3, Option.bind_some]
        dsimp only
        have := k4 (by omega)
        rw [if_pos k3, if_pos (by simpa using this), if_pos (by omega)]
        exact ⟨_, _, rfl, by simp; omega⟩
      · rw [if_neg c1]
        by_cases c2 : r1 = 2
        · rw [if_pos c2]
          obtain ⟨r3, a3, s3, e3, k3, k4, _, o3⟩ := pick_ok hl o1 (by omega) 2
          rw [e3, Option.bind_some]
          dsimp only
          have := k4 (by omega)
          rw [show wrap64 (64 + r3) = 64 + r3 from by unfold wrap64; omega, if_pos (by omega), if_pos (by omega)]
          exact ⟨_, _, rfl, by simp; omega⟩
        · rw [if_neg c2]
          exact ⟨_, _, rfl, by omega⟩
  | succ d ih =>
    intro k x a s b h hb hx hk
    obtain ⟨k, rfl⟩ : ∃ m, k = m + 1 := ⟨k - 1, by omega⟩
    simp only [spec_DrawNumsOf.l0]
    rw [if_pos (by omega), pow_eq p hp k (by omega), Option.bind_some]
    obtain ⟨r1, a1, s1, e1, o1⟩ := wide_ok hl h (by omega) ((2 ^ p : Nat) : Int) (by omega)
    rw [e1, Option.bind_some]
    dsimp only
    rw [if_pos (by omega), show wrap64 (((d + 1 : Nat) : Int) - 1) = (d : Int) from by unfold wrap64; omega]
    exact ih k (x ++ [r1]) a1 s1 _ o1 (by omega) (by simp; omega) (by omega)
theorem draw_ok {l : List Int} (hl : Bytes l) (k : Nat) (hk : 60 < k) : ∃ X q, spec_DrawNumsOf.f k l = some (X, q) ∧ X.length ≤ 100 := by
  unfold spec_DrawNumsOf.f
  obtain ⟨s, e0, o0⟩ := open_ok hl
  rw [e0, Option.bind_some]
  dsimp only
  obtain ⟨r1, a1, s1, e1, k1, k2, _, o1⟩ := pick_ok hl o0 (by omega) 17
  rw [e1, Option.bind_some]
  dsimp only
  obtain ⟨n, a2, s2, e2, hn, o2⟩ := size20_ok hl o1 (by omega)
  rw [e2, Option.bind_some]
  dsimp only
  have := k2 (by omega)
  obtain ⟨p, rfl⟩ := Int.eq_ofNat_of_zero_le k1
  exact draw_l0 hl p (by omega) n k [] a2 s2 _ o2 (by omega) (by simp; omega) (by omega)
theorem leo_up {α : Type} (f : Nat → Option α) (h : ∀ k, LeO (f k) (f (k + 1))) (k : Nat) (r : α) (e : f k = some r) : ∀ d, f (k + d) = some r
  | 0 => e
  | d + 1 => h (k + d) r (leo_up f h k r e d)
theorem FnNums : laws_FnNums.Pure := by
  intro l0 hl1 hl2 hb
  by_cases c : (l0.length : Int) > 1048576
  · refine ⟨0, ?_⟩
    unfold laws_FnNums.f laws_big.f
    rw [Option.bind_some, if_pos (decide_eq_true c)]
  have hl : Bytes l0 := bytes_of (by omega) hb
  have hh : wrap64 ((l0.length : Int) / 2) = ((l0.length / 2 : Nat) : Int) := by
    have := hl.1
    unfold wrap64; omega
  have hl' : Bytes (l0.drop (l0.length / 2)) := ⟨by have := hl.1; rw [List.length_drop]; omega, fun x hx => hl.2 x (List.mem_of_mem_drop hx)⟩
  obtain ⟨X, a, e1, hX⟩ := draw_ok hl 100 (by omega)
  obtain ⟨Y, a', e2, hY⟩ := draw_ok hl' 100 (by omega)
  obtain ⟨Ks, hs⟩ := sNum X a
  obtain ⟨Ki, hi⟩ := iNum X a
  obtain ⟨Kr, hr⟩ : ∃ Kr, ∀ k, Kr ≤ k → (0 ≤ a ∧ a ≤ 16 ∧ X.length ≤ 64 ∧ Y.length ≤ 64) → laws_FnNums.j0 k X a Y false = some true := by
    by_cases hc : 0 ≤ a ∧ a ≤ 16 ∧ X.length ≤ 64 ∧ Y.length ≤ 64
    · obtain ⟨p, rfl⟩ := Int.eq_ofNat_of_zero_le hc.1
      obtain ⟨K, h⟩ := rest X Y p (by omega) hc.2.2.1 hc.2.2.2
      exact ⟨K, fun k hk _ => h k hk⟩
    · exact ⟨0, fun k _ h => absurd h hc⟩
  have fin : ∀ (flag : Bool) (k : Nat), Ks + Ki + Kr + 1 ≤ k → (flag = false → (0 ≤ a ∧ a ≤ 16 ∧ X.length ≤ 64 ∧ Y.length ≤ 64)) → laws_FnNums.j0 k X a Y flag = some true := by
    intro flag k hk hf
    cases flag with
    | false => exact hr k (by omega) (hf rfl)
    | true =>
      obtain ⟨k, rfl⟩ : ∃ m, k = m + 1 := ⟨k - 1, by omega⟩
      simp only [laws_FnNums.j0]
      rw [if_pos trivial, hi k (by omega), Option.bind_some, hs k (by omega), Option.bind_some, beq_self_eq_true]
  obtain ⟨K, hK⟩ : ∃ K, K = 100 + (Ks + Ki + Kr + 1) := ⟨_, rfl⟩
  have m1 : spec_DrawNumsOf.f K l0 = some (X, a) := by rw [hK]; exact leo_up (fun k => spec_DrawNumsOf.f k l0) (fun k => spec_DrawNumsOf.mono l0 k) 100 _ e1 _
  have m2 : spec_DrawNumsOf.f K (l0.drop (l0.length / 2)) = some (Y, a') := by rw [hK]; exact leo_up (fun k => spec_DrawNumsOf.f k (l0.drop (l0.length / 2))) (fun k => spec_DrawNumsOf.mono _ k) 100 _ e2 _
  refine ⟨K, ?_⟩
  unfold laws_FnNums.f laws_big.f
  rw [Option.bind_some, if_neg (by simpa using c), m1, Option.bind_some, hh, if_pos (by omega), if_pos (by omega), Int.toNat_natCast, m2, Option.bind_some]
  dsimp only
  rw [hs K (by omega), Option.bind_some]
  by_cases c1 : ((numT X a).length : Int) = a
  · rw [if_pos c1]
    by_cases c2 : (Y.length : Int) > 64
    · rw [if_pos c2]; exact fin true K (by omega) (fun h => by cases h)
    · rw [if_neg c2]
      by_cases c3 : a < 0
      · rw [if_pos c3]; exact fin true K (by omega) (fun h => by cases h)
      · rw [if_neg c3]
        by_cases c4 : a > 16
        · rw [if_pos c4]; exact fin true K (by omega) (fun h => by cases h)
        · rw [if_neg c4]
          exact fin _ K (by omega) (fun h => by have := of_decide_eq_false h; omega)
  · rw [if_neg c1]; exact fin true K (by omega) (fun h => by cases h)

end Go.Proofs.Ytljmhhadclgegaa.Pure

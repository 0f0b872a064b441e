/- NumsOf answers as the reference, leaves its argument alone and shares no memory -/
import Derived.Test.YtbiighdgnaicnaaPFnExactNumsOfx3
import Derived.Laws.BitsAllLaws
namespace Go.Proofs.Ytbiighdgnaicnaa.Pure
open Go.RowKit Go.Proofs.Ytbiighdgnaicnaa.PFnExactNumsOf Go.Proofs.YtbiighdgnaicnaaW.PrintWords Go.Proofs.YtbiighdgnaicnaaW.PrintLast Go.Proofs.YtbiighdgnaicnaaW.PrintMore
set_option linter.unusedVariables false
set_option linter.unusedSimpArgs false

def Ev (P : Nat → Prop) : Prop := ∃ K, ∀ k, K ≤ k → P k
theorem Ev.up {P Q : Nat → Prop} (h : Ev P) (f : ∀ k, P k → Q (k + 1)) : Ev Q := by
  obtain ⟨K, h⟩ := h
  exact ⟨K + 1, fun k hk => by
    obtain ⟨m, rfl⟩ : ∃ m, k = m + 1 := ⟨k - 1, by omega⟩
    exact f m (h m (by omega))⟩
theorem Ev.and {P Q : Nat → Prop} (h : Ev P) (h' : Ev Q) : Ev fun k => P k ∧ Q k := by
  obtain ⟨K, h⟩ := h
  obtain ⟨K', h'⟩ := h'
  exact ⟨K + K', fun k hk => ⟨h k (by omega), h' k (by omega)⟩⟩
theorem Ev.imp {P Q : Nat → Prop} (h : Ev P) (f : ∀ k, P k → Q k) : Ev Q := by
  obtain ⟨K, h⟩ := h
  exact ⟨K, fun k hk => f k (h k hk)⟩
theorem Ev.from {P : Nat → Prop} (K : Nat) (h : ∀ k, K ≤ k → P k) : Ev P := ⟨K, h⟩
theorem w_up (n : Nat) (h : n ≤ 2000000) : wrap64 (((n + 1 : Nat) : Int) - 1) = (n : Int) := by unfold wrap64; omega
theorem w_inc (n : Nat) (h : n ≤ 2000000) : wrap64 ((n : Int) + 1) = ((n + 1 : Nat) : Int) := by unfold wrap64; omega
theorem w_half (y : Nat) (h : y < 18446744073709551616) : wrap64 ((y / 2 : Nat) : Int) = ((y / 2 : Nat) : Int) := by unfold wrap64; omega
theorem w_tw (r : Nat) (h : 2 * r ≤ 9223372036854775808) : IntKind.u64.wrap (2 * (r : Int)) = ((2 * r : Nat) : Int) := by rw [IntKind.wrap_u64]; omega
theorem w_sum (a b : Nat) (h : a ≤ b) (hb : b ≤ 9223372036854775808) (h2 : a < b ∨ a < b := by omega) : IntKind.u64.wrap ((a : Int) + (b : Int)) = ((a + b : Nat) : Int) := by rw [IntKind.wrap_u64]; omega
def two64 : Nat := 18446744073709551616
def Uu (l : List Int) : Prop := ∀ x, x ∈ l → 0 ≤ x ∧ x < 18446744073709551616
/-- Plane k of a number, as a natural number. -/
def pl (l : List Int) (k : Nat) : Nat := (rd l (k : Int)).toNat
theorem rd_pl (l : List Int) (h : Uu l) (k : Nat) : rd l (k : Int) = ((pl l k : Nat) : Int) ∧ pl l k < 18446744073709551616 := by
  by_cases c : k < l.length
  · have e : rd l (k : Int) = l[k] := by simp [rd, c]
    have := h l[k] (List.getElem_mem _)
    unfold pl
    rw [e]
    omega
  · have e : rd l (k : Int) = 0 := by simp [rd, List.getElem?_eq_none (Nat.le_of_not_lt c)]
    unfold pl
    rw [e]
    omega
theorem tb (v j : Nat) : v.testBit j = decide (v / 2 ^ j % 2 = 1) := Nat.testBit_eq_decide_div_mod_eq
theorem addpow (x i k : Nat) (h : x < 2 ^ i) : (x + 2 ^ i).testBit k = (decide (k = i) || x.testBit k) := by
  rw [Nat.add_comm]
  rcases Nat.lt_trichotomy k i with c | c | c
  · rw [Nat.testBit_two_pow_add_gt c, decide_eq_false (by omega)]; rfl
  · subst c
    rw [Nat.testBit_two_pow_add_eq, Nat.testBit_lt_two_pow h]; simp
  · have h1 : 2 ^ i + x < 2 ^ k := by
      have : 2 ^ (i + 1) ≤ 2 ^ k := Nat.pow_le_pow_right (by omega) (by omega)
      rw [Nat.pow_succ] at this
      omega
    have h2 : x < 2 ^ k := by omega
    rw [Nat.testBit_lt_two_pow h1, Nat.testBit_lt_two_pow h2, decide_eq_false (by omega)]; rfl
/-- The number of lane j: its lowest i planes. -/
def valTo (l : List Int) (j : Nat) : Nat → Nat
  | 0 => 0
  | i + 1 => if (pl l i).testBit j = true then valTo l j i + 2 ^ i else valTo l j i
theorem valTo_lt (l : List Int) (j : Nat) : ∀ i, valTo l j i < 2 ^ i
  | 0 => by simp [valTo]
  | i + 1 => by
    have := valTo_lt l j i
    unfold valTo
    rw [Nat.pow_succ]
    split <;> omega
theorem valTo_bit (l : List Int) (j k : Nat) : ∀ i, (valTo l j i).testBit k = (decide (k < i) && (pl l k).testBit j)
  | 0 => by simp [valTo]
  | i + 1 => by
    have h := valTo_bit l j k i
    unfold valTo
    by_cases c : (pl l i).testBit j = true
    · rw [if_pos c, addpow _ _ _ (valTo_lt l j i), h]
      by_cases e : k = i
      · subst e; simp [c]
      · have : decide (k < i + 1) = decide (k < i) := by simp; omega
        rw [this, decide_eq_false e]; rfl
    · rw [if_neg c, h]
      by_cases e : k = i
      · subst e; simp [Bool.eq_false_iff.2 c]
      · have : decide (k < i + 1) = decide (k < i) := by simp; omega
        rw [this]
theorem pow_u0 : ∀ (n k r : Nat), n < k → n ≤ 63 → r * 2 ^ n ≤ 9223372036854775808 → 1 ≤ r → spec_l06Power.l0 k (n : Int) (r : Int) = some ((r * 2 ^ n : Nat) : Int)
  | 0, k, r, hk, _, _, _ => by
    obtain ⟨k, rfl⟩ : ∃ m, k = m + 1 := ⟨k - 1, by omega⟩
    simp [spec_l06Power.l0]
  | n + 1, k, r, hk, hn, h, hr => by
    obtain ⟨k, rfl⟩ : ∃ m, k = m + 1 := ⟨k - 1, by omega⟩
    have e : r * 2 ^ (n + 1) = 2 * r * 2 ^ n := by rw [Nat.pow_succ, Nat.mul_comm 2 r, Nat.mul_assoc, Nat.mul_comm 2 (2 ^ n)]
    have hle : 2 * r ≤ 2 * r * 2 ^ n := Nat.le_mul_of_pos_right _ (Nat.two_pow_pos n)
    rw [e] at h ⊢
    have hle2 : 2 * r ≤ 9223372036854775808 := Nat.le_trans hle h
    simp only [spec_l06Power.l0]
    rw [if_pos (by omega), w_up n (by omega), w_tw r hle2]
    exact pow_u0 n k (2 * r) (by omega) (by omega) h (by omega)
theorem pow_u (n k : Nat) (hn : n ≤ 63) (hk : n < k) : spec_l06Power.f k (n : Int) = some ((2 ^ n : Nat) : Int) := by
  have hp : 2 ^ n ≤ 9223372036854775808 := Nat.le_trans (Nat.pow_le_pow_right (by omega) hn) (by decide)
  unfold spec_l06Power.f
  have := pow_u0 n k 1 hk hn (by omega) (by omega)
  simpa using this
/-- The planes of a list's first m numbers. -/
def plist (X : List Int) (p m : Nat) : List Int := (List.range p).map fun (k : Nat) => ((valTo X k m : Nat) : Int)
theorem plist_len (X : List Int) (p m : Nat) : (plist X p m).length = p := by simp [plist]
theorem plist_get (X : List Int) (p m i : Nat) (h : i < (plist X p m).length) : (plist X p m)[i] = ((valTo X i m : Nat) : Int) := by simp [plist]
theorem put_l1 (X : List Int) (hu : Uu X) (hX : X.length ≤ 64) (p : Nat) (hp : p ≤ 64) (m : Nat) (hm : m < X.length) (r : List Int) (tail : Ev fun k => spec_l07Put.l0 k X (p : Int) (plist X p (m + 1)) ((m + 1 : Nat) : Int) = some r) :
    ∀ (d i : Nat) (l : List Int), p - i = d → i ≤ p → l.length = p → l.take i = (plist X p (m + 1)).take i → l.drop i = (plist X p m).drop i → Ev fun k => spec_l07Put.l1 k X (p : Int) l (m : Int) ((pl X m / 2 ^ i : Nat) : Int) (i : Int) = some r := by
  intro d
  induction d with
  | zero =>
    intro i l hd hi hl h1 h2
    have e : i = p := by omega
    subst e
    rw [List.take_of_length_le (by omega), List.take_of_length_le (by rw [plist_len]; omega)] at h1
    subst h1
    refine tail.up fun k hk => ?_
    simp only [spec_l07Put.l1]
    rw [if_neg (by omega), w_inc m (by omega)]
    exact hk
  | succ d ih =>
    intro i l hd hi hl h1 h2
    have hlt : i < p := by omega
    have hp1 : i < (plist X p m).length := by rw [plist_len]; exact hlt
    have hp2 : i < (plist X p (m + 1)).length := by rw [plist_len]; exact hlt
    have hcur : l[i]'(by omega) = ((valTo X i m : Nat) : Int) := by
      have := congrArg (fun z => z[0]?) h2
      simp only [List.getElem?_drop, Nat.add_zero] at this
      rw [List.getElem?_eq_getElem (by omega), List.getElem?_eq_getElem hp1, plist_get] at this
      exact Option.some.inj this
    have hdr : l.drop (i + 1) = (plist X p m).drop (i + 1) := by
      have := congrArg (List.drop 1) h2
      simpa [List.drop_drop, Nat.add_comm] using this
    have hv := rd_pl X hu m
    have hq : pl X m / 2 ^ i ≤ pl X m := Nat.div_le_self _ _
    have e2 : pl X m / 2 ^ (i + 1) = pl X m / 2 ^ i / 2 := by rw [Nat.pow_succ, Nat.div_div_eq_div_mul]
    have hlow := valTo_lt X i m
    have h64 : 2 ^ m ≤ 9223372036854775808 := Nat.le_trans (Nat.pow_le_pow_right (by omega) (show m ≤ 63 by omega)) (by decide)
    by_cases c : (pl X m).testBit i = true
    · have hodd : pl X m / 2 ^ i % 2 = 1 := by rw [tb] at c; exact of_decide_eq_true c
      have hnew : valTo X i (m + 1) = valTo X i m + 2 ^ m := by rw [valTo, if_pos c]
      have ht : (l.set i ((valTo X i (m + 1) : Nat) : Int)).take (i + 1) = (plist X p (m + 1)).take (i + 1) := by
        rw [List.take_add_one, List.take_add_one, List.take_set_of_le (Nat.le_refl _), h1, List.getElem?_eq_getElem hp2, plist_get]
        simp [hl, hlt]
      refine ((ih (i + 1) (l.set i ((valTo X i (m + 1) : Nat) : Int)) (by omega) (by omega) (by simpa using hl) ht (by rw [List.drop_set_of_lt (by omega)]; exact hdr)).and (Ev.from (P := fun k => m < k) (m + 1) fun k hk => hk)).up fun k hk => ?_
      obtain ⟨hk, hk2⟩ := hk
      rw [e2] at hk
      simp only [spec_l07Put.l1]
      have er : rd l (i : Int) = ((valTo X i m : Nat) : Int) := by
        rw [← hcur]; simp [rd, hl, hlt]
      rw [er, pow_u m k (by omega) hk2]
      generalize pl X m / 2 ^ i = y at hk hq hodd ⊢
      rw [if_pos (by omega), if_pos (by rw [show Int.tmod (y : Int) 2 = ((y % 2 : Nat) : Int) from rfl, hodd]; rfl), if_pos (by omega), if_pos (by omega)]
      simp only [Option.bind_some]
      rw [Int.toNat_natCast, w_sum (valTo X i m) (2 ^ m) (by omega) h64, ← hnew, show Int.tdiv (y : Int) 2 = ((y / 2 : Nat) : Int) from rfl, w_half y (by omega), w_inc i (by omega)]
      exact hk
    · have heven : ¬ pl X m / 2 ^ i % 2 = 1 := by rw [tb] at c; intro h; exact c (decide_eq_true h)
      have hnew : valTo X i (m + 1) = valTo X i m := by rw [valTo, if_neg c]
      have ht : l.take (i + 1) = (plist X p (m + 1)).take (i + 1) := by
        rw [List.take_add_one, List.take_add_one, h1, List.getElem?_eq_getElem hp2, plist_get, List.getElem?_eq_getElem (by omega), hcur, hnew]
      refine (ih (i + 1) l (by omega) (by omega) hl ht hdr).up fun k hk => ?_
      rw [e2] at hk
      simp only [spec_l07Put.l1]
      generalize pl X m / 2 ^ i = y at hk hq heven ⊢
      rw [if_pos (by omega), if_neg (by rw [show Int.tmod (y : Int) 2 = ((y % 2 : Nat) : Int) from rfl]; omega), show Int.tdiv (y : Int) 2 = ((y / 2 : Nat) : Int) from rfl, w_half y (by omega), w_inc i (by omega)]
      exact hk
theorem put_l0 (X : List Int) (hu : Uu X) (hX : X.length ≤ 64) (p : Nat) (hp : p ≤ 64) : ∀ (d m : Nat), X.length - m = d → m ≤ X.length → Ev fun k => spec_l07Put.l0 k X (p : Int) (plist X p m) (m : Int) = some (plist X p X.length) := by
  intro d
  induction d with
  | zero =>
    intro m hd hm
    have e : m = X.length := by omega
    refine Ev.from 1 fun k hk => ?_
    obtain ⟨k, rfl⟩ : ∃ m, k = m + 1 := ⟨k - 1, by omega⟩
    simp only [spec_l07Put.l0]
    rw [if_neg (by omega), e]
  | succ d ih =>
    intro m hd hm
    have hlt : m < X.length := by omega
    have l1 := put_l1 X hu hX p hp m hlt _ (ih (m + 1) (by omega) (by omega)) p 0 (plist X p m) (by omega) (by omega) (plist_len X p m) rfl rfl
    refine l1.up fun k hk => ?_
    simp only [spec_l07Put.l0]
    rw [if_pos (by omega), if_pos (by omega), (rd_pl X hu m).1]
    rw [Nat.pow_zero, Nat.div_one] at hk
    exact hk
theorem put_eq (X : List Int) (hu : Uu X) (hX : X.length ≤ 64) (p : Nat) (hp : p ≤ 64) : Ev fun k => spec_l07Put.f k X (p : Int) = some (plist X p X.length) := by
  refine (put_l0 X hu hX p hp X.length 0 (by omega) (by omega)).imp fun k hk => ?_
  unfold spec_l07Put.f
  rw [if_pos (by omega), if_pos (by omega), Int.toNat_natCast]
  have e : plist X p 0 = List.replicate p 0 := by
    apply List.ext_getElem
    · simp [plist]
    · intro i h1 h2
      rw [plist_get]; simp [valTo]
  rw [e] at hk
  exact hk
theorem and1 (y : Nat) (h : y < 4294967296) : Go.bits .and .i64 (y : Int) 1 = ((y % 2 : Nat) : Int) := by
  have h1 : (BitVec.ofInt 64 (y : Int)).toNat = y := by
    rw [BitVec.ofInt_natCast, BitVec.toNat_ofNat]; exact Nat.mod_eq_of_lt (by omega)
  have h2 : (BitVec.ofInt 64 (1 : Int)).toNat = 1 := by decide
  show IntKind.i64.wrap ((BitVec.ofInt 64 (y : Int) &&& BitVec.ofInt 64 (1 : Int)).toNat : Int) = _
  rw [BitVec.toNat_and, h1, h2, Nat.and_one_is_mod, IntKind.wrap_i64]
  omega
theorem shr_n (x y : Nat) (h : y ≤ 64) : shr .i64 (x : Int) (y : Int) = ((x / 2 ^ y : Nat) : Int) := by
  unfold shr
  rw [Int.toNat_natCast, show min y IntKind.i64.bits = y from Nat.min_eq_left h]
  rw [Int.natCast_ediv, Int.natCast_pow]; rfl
theorem or_pow (x m : Nat) (h : x < 2 ^ m) : x ||| 2 ^ m = x + 2 ^ m := by
  apply Nat.eq_of_testBit_eq
  intro k
  rw [addpow x m k h, Nat.testBit_or, Nat.testBit_two_pow]
  by_cases e : k = m
  · subst e; simp
  · rw [decide_eq_false e, decide_eq_false (fun h => e h.symm)]; simp
theorem shl_b (b m : Nat) (hb : b ≤ 1) (hm : m ≤ 63) : shl .u64 (IntKind.u64.wrap (b : Int)) (m : Int) = ((b * 2 ^ m : Nat) : Int) := by
  have hp : 2 ^ m ≤ 9223372036854775808 := Nat.le_trans (Nat.pow_le_pow_right (by omega) hm) (by decide)
  have e1 : IntKind.u64.wrap (b : Int) = (b : Int) := by rw [IntKind.wrap_u64]; omega
  unfold shl
  rw [e1, Int.toNat_natCast, show min m IntKind.u64.bits = m from Nat.min_eq_left (show m ≤ 64 by omega), IntKind.wrap_u64]
  have e2 : (b : Int) * 2 ^ m = ((b * 2 ^ m : Nat) : Int) := by rw [Int.natCast_mul, Int.natCast_pow]; rfl
  rw [e2]
  have hle : b * 2 ^ m ≤ 1 * 2 ^ m := Nat.mul_le_mul_right _ hb
  generalize b * 2 ^ m = z at hle ⊢
  omega
/-- One lane more: what setLane makes of the planes. -/
theorem lane_l0 (X : List Int) (p : Nat) (hp : p ≤ 160) (m : Nat) (hm : m < 64) (n : Nat) (hn : n < 65536) (hX : pl X m = n) : ∀ (d k i : Nat) (l : List Int), p - i = d → i ≤ p → d < k → l.length = p → p ≤ 64 → l.take i = (plist X p (m + 1)).take i → l.drop i = (plist X p m).drop i → impl_setLane.l0 k l (m : Int) (n : Int) (p : Int) (i : Int) = some (plist X p (m + 1)) := by
  intro d
  induction d with
  | zero =>
    intro k i l hd hi hk hl _ h1 h2
    obtain ⟨k, rfl⟩ : ∃ m, k = m + 1 := ⟨k - 1, by omega⟩
    rw [List.take_of_length_le (by omega), List.take_of_length_le (by rw [plist_len]; omega)] at h1
    simp only [impl_setLane.l0]
    rw [if_neg (by omega), h1]
  | succ d ih =>
    intro k i l hd hi hk hl h64 h1 h2
    obtain ⟨k, rfl⟩ : ∃ m, k = m + 1 := ⟨k - 1, by omega⟩
    have hlt : i < p := by omega
    have hp1 : i < (plist X p m).length := by rw [plist_len]; exact hlt
    have hp2 : i < (plist X p (m + 1)).length := by rw [plist_len]; exact hlt
    have hcur : l[i]'(by omega) = ((valTo X i m : Nat) : Int) := by
      have := congrArg (fun z => z[0]?) h2
      simp only [List.getElem?_drop, Nat.add_zero] at this
      rw [List.getElem?_eq_getElem (by omega), List.getElem?_eq_getElem hp1, plist_get] at this
      exact Option.some.inj this
    have hdr : l.drop (i + 1) = (plist X p m).drop (i + 1) := by
      have := congrArg (List.drop 1) h2
      simpa [List.drop_drop, Nat.add_comm] using this
    have er : rd l (i : Int) = ((valTo X i m : Nat) : Int) := by
      rw [← hcur]; simp [rd, hl, hlt]
    have hq : n / 2 ^ i ≤ n := Nat.div_le_self _ _
    have hv := valTo_lt X i m
    have hp63 : 2 ^ m ≤ 9223372036854775808 := Nat.le_trans (Nat.pow_le_pow_right (by omega) (show m ≤ 63 by omega)) (by decide)
    have hnew : ((valTo X i (m + 1) : Nat) : Int) = Go.bits .or .u64 (rd l (i : Int)) (shl .u64 (IntKind.u64.wrap (Go.bits .and .i64 (shr .i64 (n : Int) (i : Int)) 1)) (m : Int)) := by
      rw [er, shr_n n i (by omega), and1 _ (by omega), shl_b _ m (by omega) (by omega)]
      rw [show valTo X i (m + 1) = (if (pl X m).testBit i = true then valTo X i m + 2 ^ m else valTo X i m) from rfl, hX, tb]
      by_cases c : n / 2 ^ i % 2 = 1
      · rw [decide_eq_true c, if_pos rfl, c, Nat.one_mul, bits_or_u64_nat _ _ (by omega) (by omega), or_pow _ _ hv]
      · have c0 : n / 2 ^ i % 2 = 0 := by omega
        rw [decide_eq_false c, if_neg (by decide), c0, Nat.zero_mul, bits_or_u64_nat _ _ (by omega) (by omega), Nat.or_zero]
    simp only [impl_setLane.l0]
    rw [if_pos (by omega), if_pos (by omega), if_pos (by omega), if_pos (by omega), Int.toNat_natCast, ← hnew, w_inc i (by omega)]
    refine ih k (i + 1) _ (by omega) (by omega) (by omega) (by simpa using hl) h64 ?_ (by rw [List.drop_set_of_lt (by omega)]; exact hdr)
    rw [List.take_add_one, List.take_add_one, List.take_set_of_le (Nat.le_refl _), h1, List.getElem?_eq_getElem hp2, plist_get]
    simp [hl, hlt]
theorem lane_eq (X : List Int) (p : Nat) (h64 : p ≤ 64) (m : Nat) (hm : m < 64) (n : Nat) (hn : n < 65536) (hX : pl X m = n) (k : Nat) (hk : p < k) : impl_setLane.f k (plist X p m) (m : Int) (n : Int) = some (plist X p (m + 1)) := by
  unfold impl_setLane.f
  rw [plist_len]
  exact lane_l0 X p (by omega) m hm n hn hX p k 0 (plist X p m) (by omega) (by omega) hk (plist_len X p m) h64 rfl rfl
theorem take_set_IntS (x l : List Int) (i : Nat) (hi : i < l.length) (hx : x.length = l.length) (h : x.take i = l.take i) : (x.set i (rd l (i : Int))).take (i + 1) = l.take (i + 1) := by
  have hr : rd l (i : Int) = l[i] := by simp [rd, hi]
  rw [hr, List.take_add_one, List.take_add_one, List.take_set_of_le (Nat.le_refl _), h]
  simp [hi, hx]
theorem toIntS_l0 (l : List Int) (hl : l.length ≤ 1048576) : ∀ (d k i : Nat) (x : List Int), x.length = l.length → i ≤ l.length → l.length - i = d → d < k → x.take i = l.take i → laws_toIntS.l0 k l x (i : Int) = some l := by
  intro d
  induction d with
  | zero =>
    intro k i x hx hi hd hk h
    obtain ⟨k, rfl⟩ : ∃ m, k = m + 1 := ⟨k - 1, by omega⟩
    simp only [laws_toIntS.l0]
    rw [if_neg (by omega)]
    rw [List.take_of_length_le (by omega), List.take_of_length_le (by omega)] at h
    rw [h]
  | succ d ih =>
    intro k i x hx hi hd hk h
    obtain ⟨k, rfl⟩ : ∃ m, k = m + 1 := ⟨k - 1, by omega⟩
    simp only [laws_toIntS.l0]
    rw [if_pos (by omega), if_pos (by omega), if_pos (by omega), show wrap64 ((i : Int) + 1) = ((i + 1 : Nat) : Int) from by unfold wrap64; omega, Int.toNat_natCast]
    exact ih k (i + 1) _ (by simp [hx]) (by omega) (by omega) (by omega) (take_set_IntS x l i (by omega) hx h)
theorem toIntS_eq (l : List Int) (hl : l.length ≤ 1048576) (k : Nat) (hk : l.length < k) : laws_toIntS.f k l = some l := by
  unfold laws_toIntS.f
  rw [if_pos (by omega), if_pos (by omega)]
  exact toIntS_l0 l hl l.length k 0 _ (by simp) (by omega) (by omega) hk rfl
theorem eqIntS_l0 (a : List Int) (ha : a.length ≤ 1048576) : ∀ (d k i : Nat), i ≤ a.length → a.length - i = d → d < k → laws_eqIntS.l0 k a a (i : Int) = some true := by
  intro d
  induction d with
  | zero =>
    intro k i hi hd hk
    obtain ⟨k, rfl⟩ : ∃ m, k = m + 1 := ⟨k - 1, by omega⟩
    simp only [laws_eqIntS.l0]
    rw [if_neg (by omega)]
  | succ d ih =>
    intro k i hi hd hk
    obtain ⟨k, rfl⟩ : ∃ m, k = m + 1 := ⟨k - 1, by omega⟩
    simp only [laws_eqIntS.l0]
    rw [if_pos (by omega), if_pos (by omega), if_pos (by omega), if_pos trivial, show wrap64 ((i : Int) + 1) = ((i + 1 : Nat) : Int) from by unfold wrap64; omega]
    exact ih k (i + 1) (by omega) (by omega) (by omega)
theorem eqIntS_eq (a : List Int) (ha : a.length ≤ 1048576) (k : Nat) (hk : a.length < k) : laws_eqIntS.f k a a = some true := by
  unfold laws_eqIntS.f
  rw [if_pos rfl]
  exact eqIntS_l0 a ha a.length k 0 (by omega) (by omega) hk
theorem eqUint64S_l0 (a : List Int) (ha : a.length ≤ 1048576) : ∀ (d k i : Nat), i ≤ a.length → a.length - i = d → d < k → laws_eqUint64S.l0 k a a (i : Int) = some true := by
  intro d
  induction d with
  | zero =>
    intro k i hi hd hk
    obtain ⟨k, rfl⟩ : ∃ m, k = m + 1 := ⟨k - 1, by omega⟩
    simp only [laws_eqUint64S.l0]
    rw [if_neg (by omega)]
  | succ d ih =>
    intro k i hi hd hk
    obtain ⟨k, rfl⟩ : ∃ m, k = m + 1 := ⟨k - 1, by omega⟩
    simp only [laws_eqUint64S.l0]
    rw [if_pos (by omega), if_pos (by omega), if_pos (by omega), if_pos trivial, show wrap64 ((i : Int) + 1) = ((i + 1 : Nat) : Int) from by unfold wrap64; omega]
    exact ih k (i + 1) (by omega) (by omega) (by omega)
theorem eqUint64S_eq (a : List Int) (ha : a.length ≤ 1048576) (k : Nat) (hk : a.length < k) : laws_eqUint64S.f k a a = some true := by
  unfold laws_eqUint64S.f
  rw [if_pos rfl]
  exact eqUint64S_l0 a ha a.length k 0 (by omega) (by omega) hk
def mkI (a : Int) (n : Nat) : List Int := (List.range n).map fun (i : Nat) => a + (i : Int)
theorem mkI_length (a : Int) (n : Nat) : (mkI a n).length = n := by simp [mkI]
theorem mkI_step (a : Int) (x : List Int) (n i : Nat) (hi : i < n) (hx : x.length = n) (h : x.take i = (mkI a n).take i) : (x.set i (a + (i : Int))).take (i + 1) = (mkI a n).take (i + 1) := by
  rw [List.take_add_one, List.take_add_one, List.take_set_of_le (Nat.le_refl _), h]
  simp [hi, hx, mkI]
theorem markI_l0 (a : Int) (n : Nat) (hn : n ≤ 1048576) (ha0 : 0 ≤ a) (ha : a ≤ 4194304) : ∀ (d k i : Nat) (x : List Int), x.length = n → i ≤ n → n - i = d → d < k → x.take i = (mkI a n).take i →
    laws_markIntS.l0 k x (a + (i : Int)) (i : Int) = some (a + (n : Int), mkI a n) := by
  intro d
  induction d with
  | zero =>
    intro k i x hx hi hd hk h
    obtain ⟨k, rfl⟩ : ∃ m, k = m + 1 := ⟨k - 1, by omega⟩
    simp only [laws_markIntS.l0]
    rw [if_neg (by omega)]
    rw [List.take_of_length_le (by omega), List.take_of_length_le (by rw [mkI_length]; omega)] at h
    rw [h, show i = n by omega]
  | succ d ih =>
    intro k i x hx hi hd hk h
    obtain ⟨k, rfl⟩ : ∃ m, k = m + 1 := ⟨k - 1, by omega⟩
    simp only [laws_markIntS.l0]
    rw [if_pos (by omega), if_pos (by omega), show wrap64 (a + (i : Int) + 1) = a + ((i + 1 : Nat) : Int) from by unfold wrap64; omega, show wrap64 ((i : Int) + 1) = ((i + 1 : Nat) : Int) from by unfold wrap64; omega, Int.toNat_natCast]
    exact ih k (i + 1) _ (by simp [hx]) (by omega) (by omega) (by omega) (mkI_step a x n i (by omega) hx h)
theorem markI_eq (a : Int) (l : List Int) (hl : l.length ≤ 1048576) (ha0 : 0 ≤ a) (ha : a ≤ 4194304) (k : Nat) (hk : l.length < k) : laws_markIntS.f k l a = some (a + (l.length : Int), mkI a l.length) := by
  unfold laws_markIntS.f
  have := markI_l0 a l.length hl ha0 ha l.length k 0 l rfl (by omega) (by omega) hk rfl
  simpa using this
def mkU (a : Int) (n : Nat) : List Int := (List.range n).map fun (i : Nat) => a + (i : Int)
theorem mkU_length (a : Int) (n : Nat) : (mkU a n).length = n := by simp [mkU]
theorem mkU_step (a : Int) (x : List Int) (n i : Nat) (hi : i < n) (hx : x.length = n) (h : x.take i = (mkU a n).take i) : (x.set i (a + (i : Int))).take (i + 1) = (mkU a n).take (i + 1) := by
  rw [List.take_add_one, List.take_add_one, List.take_set_of_le (Nat.le_refl _), h]
  simp [hi, hx, mkU]
theorem markU_l0 (a : Int) (n : Nat) (hn : n ≤ 1048576) (ha0 : 0 ≤ a) (ha : a ≤ 4194304) : ∀ (d k i : Nat) (x : List Int), x.length = n → i ≤ n → n - i = d → d < k → x.take i = (mkU a n).take i →
    laws_markUint64S.l0 k x (a + (i : Int)) (i : Int) = some (a + (n : Int), mkU a n) := by
  intro d
  induction d with
  | zero =>
    intro k i x hx hi hd hk h
    obtain ⟨k, rfl⟩ : ∃ m, k = m + 1 := ⟨k - 1, by omega⟩
    simp only [laws_markUint64S.l0]
    rw [if_neg (by omega)]
    rw [List.take_of_length_le (by omega), List.take_of_length_le (by rw [mkU_length]; omega)] at h
    rw [h, show i = n by omega]
  | succ d ih =>
    intro k i x hx hi hd hk h
    obtain ⟨k, rfl⟩ : ∃ m, k = m + 1 := ⟨k - 1, by omega⟩
    simp only [laws_markUint64S.l0]
    rw [if_pos (by omega), if_pos (by omega), show IntKind.u64.wrap (a + (i : Int)) = a + (i : Int) from by rw [IntKind.wrap_u64]; omega, show wrap64 (a + (i : Int) + 1) = a + ((i + 1 : Nat) : Int) from by unfold wrap64; omega, show wrap64 ((i : Int) + 1) = ((i + 1 : Nat) : Int) from by unfold wrap64; omega, Int.toNat_natCast]
    exact ih k (i + 1) _ (by simp [hx]) (by omega) (by omega) (by omega) (mkU_step a x n i (by omega) hx h)
theorem markU_eq (a : Int) (l : List Int) (hl : l.length ≤ 1048576) (ha0 : 0 ≤ a) (ha : a ≤ 4194304) (k : Nat) (hk : l.length < k) : laws_markUint64S.f k l a = some (a + (l.length : Int), mkU a l.length) := by
  unfold laws_markUint64S.f
  have := markU_l0 a l.length hl ha0 ha l.length k 0 l rfl (by omega) (by omega) hk rfl
  simpa using this
theorem heldU_l0 (n : Nat) (hn : n ≤ 1048576) : ∀ (d k i : Nat), i ≤ n → n - i = d → d < k → laws_heldUint64S.l0 k (mkU 1 n) (1 + (i : Int)) (i : Int) = some (1 + (n : Int)) := by
  intro d
  induction d with
  | zero =>
    intro k i hi hd hk
    obtain ⟨k, rfl⟩ : ∃ m, k = m + 1 := ⟨k - 1, by omega⟩
    simp only [laws_heldUint64S.l0]
    rw [if_neg (by rw [mkU_length]; omega), show i = n by omega]
  | succ d ih =>
    intro k i hi hd hk
    obtain ⟨k, rfl⟩ : ∃ m, k = m + 1 := ⟨k - 1, by omega⟩
    simp only [laws_heldUint64S.l0]
    have e : rd (mkU 1 n) (i : Int) = 1 + (i : Int) := by
      have : i < n := by omega
      simp [rd, mkU, this]
    rw [if_pos (by rw [mkU_length]; omega), if_pos (by omega), show IntKind.u64.wrap (1 + (i : Int)) = 1 + (i : Int) from by rw [IntKind.wrap_u64]; omega, if_pos e, show wrap64 (1 + (i : Int) + 1) = 1 + ((i + 1 : Nat) : Int) from by unfold wrap64; omega, show wrap64 ((i : Int) + 1) = ((i + 1 : Nat) : Int) from by unfold wrap64; omega]
    exact ih k (i + 1) (by omega) (by omega) (by omega)
theorem heldU_eq (n : Nat) (hn : n ≤ 1048576) (k : Nat) (hk : n < k) : laws_heldUint64S.f k (mkU 1 n) 1 = some (1 + (n : Int)) := by
  unfold laws_heldUint64S.f
  have := heldU_l0 n hn n k 0 (by omega) (by omega) hk
  simpa using this
theorem w_dbl (r : Nat) (h : r ≤ 2000000) : wrap64 (2 * (r : Int)) = ((2 * r : Nat) : Int) := by unfold wrap64; omega
theorem pow_l0 : ∀ (n k : Nat) (r : Nat), n ≤ 16 → n < k → r * 2 ^ n ≤ 65536 → spec_l02Pow.l0 k (n : Int) (r : Int) = some ((r * 2 ^ n : Nat) : Int)
  | 0, k, r, _, hk, _ => by
    obtain ⟨k, rfl⟩ : ∃ m, k = m + 1 := ⟨k - 1, by omega⟩
    simp [spec_l02Pow.l0]
  | n + 1, k, r, hn, hk, h => by
    obtain ⟨k, rfl⟩ : ∃ m, k = m + 1 := ⟨k - 1, by omega⟩
    have e : r * 2 ^ (n + 1) = 2 * r * 2 ^ n := by rw [Nat.pow_succ]; rw [Nat.mul_comm 2 r, Nat.mul_assoc, Nat.mul_comm 2 (2 ^ n)]
    have hle : 2 * r ≤ 65536 := Nat.le_trans (Nat.le_mul_of_pos_right _ (Nat.two_pow_pos n)) (by rw [← e]; exact h)
    simp only [spec_l02Pow.l0]
    rw [if_pos (by omega), w_up n (by omega), w_dbl r (by omega), e]
    exact pow_l0 n k (2 * r) (by omega) (by omega) (by rw [← e]; exact h)
theorem pow_eq (n : Nat) (hn : n ≤ 16) (k : Nat) (hk : n < k) : spec_l02Pow.f k (n : Int) = some ((2 ^ n : Nat) : Int) := by
  have hp : 2 ^ n ≤ 65536 := Nat.le_trans (Nat.pow_le_pow_right (by omega) hn) (by decide)
  unfold spec_l02Pow.f
  have := pow_l0 n k 1 hn hk (by omega)
  simpa using this
def okAll (X : List Int) (p : Nat) : Nat → Bool
  | 0 => true
  | m + 1 => okAll X p m && (decide (0 ≤ rd X (m : Int)) && decide (rd X (m : Int) < ((2 ^ p : Nat) : Int)))
def numR (X : List Int) (p : Nat) : List Int := if okAll X p X.length = true then plist X p X.length else []
theorem okAll_iff (X : List Int) (p : Nat) : ∀ m, okAll X p m = true ↔ ∀ j, j < m → 0 ≤ rd X (j : Int) ∧ rd X (j : Int) < ((2 ^ p : Nat) : Int)
  | 0 => by simp [okAll]
  | m + 1 => by
    unfold okAll
    rw [Bool.and_eq_true, okAll_iff X p m, Bool.and_eq_true, decide_eq_true_eq, decide_eq_true_eq]
    constructor
    · rintro ⟨h1, h2⟩ j hj
      by_cases e : j = m
      · subst e; exact h2
      · exact h1 j (by omega)
    · intro h
      exact ⟨fun j hj => h j (by omega), h m (by omega)⟩
theorem i_l0 (X : List Int) (hX : X.length ≤ 64) (p : Nat) (hp : p ≤ 16) : ∀ (d m : Nat), X.length - m = d → m ≤ X.length → okAll X p m = true → Ev fun k => impl_NumsOf.l0 k (p : Int) (plist X p m) X (X.length : Int) (m : Int) = some (numR X p) := by
  have hpp : 2 ^ p ≤ 65536 := Nat.le_trans (Nat.pow_le_pow_right (by omega) hp) (by decide)
  intro d
  induction d with
  | zero =>
    intro m hd hm ho
    have e : m = X.length := by omega
    subst e
    refine Ev.from 1 fun k hk => ?_
    obtain ⟨k, rfl⟩ : ∃ m, k = m + 1 := ⟨k - 1, by omega⟩
    simp only [impl_NumsOf.l0]
    rw [if_neg (by omega)]
    unfold numR
    rw [if_pos ho]
  | succ d ih =>
    intro m hd hm ho
    have hlt : m < X.length := by omega
    have hsh : wrap64 (shl .i64 1 (p : Int) - 1) = ((2 ^ p : Nat) : Int) - 1 := by
      unfold shl
      rw [Int.toNat_natCast, show min p IntKind.i64.bits = p from Nat.min_eq_left (show p ≤ 64 by omega), Int.one_mul, IntKind.wrap_i64]
      have : ((2 : Int) ^ p) = ((2 ^ p : Nat) : Int) := by rw [Int.natCast_pow]; rfl
      rw [this]
      obtain ⟨z, hz⟩ : ∃ z, z = 2 ^ p := ⟨_, rfl⟩
      have hz1 : 1 ≤ z := by rw [hz]; exact Nat.two_pow_pos p
      rw [← hz] at hpp ⊢
      unfold wrap64
      omega
    by_cases c : 0 ≤ rd X (m : Int) ∧ rd X (m : Int) < ((2 ^ p : Nat) : Int)
    · have ho2 : okAll X p (m + 1) = true := by
        unfold okAll
        rw [ho, decide_eq_true c.1, decide_eq_true c.2]; rfl
      obtain ⟨n, hn⟩ := Int.eq_ofNat_of_zero_le c.1
      refine ((ih (m + 1) (by omega) (by omega) ho2).and (Ev.from (P := fun k => p < k) (p + 1) fun k hk => hk)).up fun k hk => ?_
      obtain ⟨hk, hk2⟩ := hk
      simp only [impl_NumsOf.l0]
      rw [if_pos (by omega), if_pos (by omega), if_pos (by omega), if_pos (by omega), hsh]
      unfold impl_within.f
      rw [if_pos (show rd X (m : Int) ≥ 0 from c.1), decide_eq_true (by omega)]
      simp only [Option.bind_some, if_true]
      rw [hn, lane_eq X p (by omega) m (by omega) n (by omega) (by unfold pl; rw [hn]; simp) k hk2]
      simp only [Option.bind_some]
      rw [w_inc m (by omega)]
      exact hk
    · have hno : numR X p = [] := by
        unfold numR
        rw [if_neg]
        intro h
        exact c ((okAll_iff X p X.length).1 h m hlt)
      refine Ev.from 1 fun k hk => ?_
      obtain ⟨k, rfl⟩ : ∃ m, k = m + 1 := ⟨k - 1, by omega⟩
      simp only [impl_NumsOf.l0]
      rw [if_pos (by omega), if_pos (by omega), if_pos (by omega), if_pos (by omega), hsh, hno]
      unfold impl_within.f
      by_cases c1 : rd X (m : Int) ≥ 0
      · rw [if_pos c1, decide_eq_false (by omega)]
        simp
      · rw [if_neg c1]
        simp
theorem s_l0 (X : List Int) (hX : X.length ≤ 64) (p : Nat) (hp : p ≤ 16) : ∀ (d m : Nat), X.length - m = d → m ≤ X.length → okAll X p m = true → Ev fun k => spec_NumsOf.l0 k X (p : Int) (m : Int) = some (numR X p) := by
  have hpp : 2 ^ p ≤ 65536 := Nat.le_trans (Nat.pow_le_pow_right (by omega) hp) (by decide)
  intro d
  induction d with
  | zero =>
    intro m hd hm ho
    have e : m = X.length := by omega
    subst e
    have hu : Uu X := by
      intro x hx
      obtain ⟨j, hj, rfl⟩ := List.getElem_of_mem hx
      have := (okAll_iff X p X.length).1 ho j hj
      have e : rd X (j : Int) = X[j] := by simp [rd, hj]
      rw [e] at this
      omega
    refine (put_eq X hu hX p (by omega)).up fun k hk => ?_
    simp only [spec_NumsOf.l0]
    rw [if_neg (by omega), hk]
    unfold numR
    rw [if_pos ho]; rfl
  | succ d ih =>
    intro m hd hm ho
    have hlt : m < X.length := by omega
    by_cases c : 0 ≤ rd X (m : Int) ∧ rd X (m : Int) < ((2 ^ p : Nat) : Int)
    · have ho2 : okAll X p (m + 1) = true := by
        unfold okAll
        rw [ho, decide_eq_true c.1, decide_eq_true c.2]; rfl
      refine ((ih (m + 1) (by omega) (by omega) ho2).and (Ev.from (P := fun k => p < k) (p + 1) fun k hk => hk)).up fun k hk => ?_
      obtain ⟨hk, hk2⟩ := hk
      simp only [spec_NumsOf.l0]
      rw [if_pos (by omega), if_pos (by omega), if_neg (by omega), pow_eq p hp k hk2]
      simp only [Option.bind_some]
      rw [if_neg (by omega), w_inc m (by omega)]
      exact hk
    · have hno : numR X p = [] := by
        unfold numR
        rw [if_neg]
        intro h
        exact c ((okAll_iff X p X.length).1 h m hlt)
      refine (Ev.from (P := fun k => p < k) (p + 1) fun k hk => hk).up fun k hk2 => ?_
      simp only [spec_NumsOf.l0]
      rw [if_pos (by omega), if_pos (by omega), hno]
      by_cases c1 : rd X (m : Int) < 0
      · rw [if_pos c1]
      · rw [if_neg c1, pow_eq p hp k hk2]
        simp only [Option.bind_some]
        rw [if_pos (by omega)]
theorem plist0 (X : List Int) (p : Nat) : plist X p 0 = List.replicate p 0 := by
  apply List.ext_getElem
  · simp [plist]
  · intro i h1 h2
    rw [plist_get]; simp [valTo]
def numT (X : List Int) (a : Int) : List Int := if X.length ≤ 64 ∧ 0 ≤ a ∧ a ≤ 16 then numR X a.toNat else []
theorem numT_len (X : List Int) (a : Int) : (numT X a).length ≤ 16 := by
  unfold numT
  split
  · rename_i h
    unfold numR
    split
    · rw [plist_len]; omega
    · simp
  · simp
theorem iNum (X : List Int) (a : Int) : Ev fun k => impl_NumsOf.f k X a = some (numT X a) := by
  by_cases c1 : (X.length : Int) > 64
  · refine Ev.from 1 fun k hk => ?_
    obtain ⟨k, rfl⟩ : ∃ m, k = m + 1 := ⟨k - 1, by omega⟩
    unfold impl_NumsOf.f numT
    rw [if_pos c1, if_neg (by omega)]
    simp [impl_NumsOf.j0]
  · by_cases c2 : 0 ≤ a ∧ a ≤ 16
    · obtain ⟨p, rfl⟩ := Int.eq_ofNat_of_zero_le c2.1
      have h := i_l0 X (by omega) p (by omega) X.length 0 (by omega) (by omega) rfl
      rw [plist0] at h
      refine h.up fun k hk => ?_
      unfold impl_NumsOf.f numT impl_within.f
      rw [if_neg c1, if_pos (show ((p : Nat) : Int) ≥ 0 by omega), decide_eq_true c2.2, if_pos ⟨by omega, c2⟩, Int.toNat_natCast]
      simp only [Option.bind_some, Bool.not_true, impl_NumsOf.j0]
      rw [if_neg (by decide), if_pos (by omega), if_pos (by omega), Int.toNat_natCast]
      exact hk
    · refine Ev.from 1 fun k hk => ?_
      obtain ⟨k, rfl⟩ : ∃ m, k = m + 1 := ⟨k - 1, by omega⟩
      unfold impl_NumsOf.f numT impl_within.f
      rw [if_neg c1]
      by_cases c3 : a ≥ 0
      · rw [if_pos c3, decide_eq_false (by omega), if_neg (fun h => c2 h.2)]
        simp [impl_NumsOf.j0]
      · rw [if_neg c3, if_neg (fun h => c2 h.2)]
        simp [impl_NumsOf.j0]
theorem sNum (X : List Int) (a : Int) : Ev fun k => spec_NumsOf.f k X a = some (numT X a) := by
  by_cases c1 : (X.length : Int) > 64
  · refine Ev.from 1 fun k hk => ?_
    obtain ⟨k, rfl⟩ : ∃ m, k = m + 1 := ⟨k - 1, by omega⟩
    unfold spec_NumsOf.f numT
    rw [if_pos c1, if_neg (by omega)]
    simp [spec_NumsOf.j0]
  · by_cases c2 : 0 ≤ a ∧ a ≤ 16
    · obtain ⟨p, rfl⟩ := Int.eq_ofNat_of_zero_le c2.1
      have h := s_l0 X (by omega) p (by omega) X.length 0 (by omega) (by omega) rfl
      refine h.up fun k hk => ?_
      unfold spec_NumsOf.f numT
      rw [if_neg c1, if_neg (by omega), decide_eq_false (by omega), if_pos ⟨by omega, c2⟩, Int.toNat_natCast]
      simp only [spec_NumsOf.j0]
      rw [if_neg (by decide)]
      exact hk
    · refine Ev.from 1 fun k hk => ?_
      obtain ⟨k, rfl⟩ : ∃ m, k = m + 1 := ⟨k - 1, by omega⟩
      unfold spec_NumsOf.f numT
      rw [if_neg c1]
      by_cases c3 : a < 0
      · rw [if_pos c3, if_neg (fun h => c2 h.2)]
        simp [spec_NumsOf.j0]
      · rw [if_neg c3, decide_eq_true (by omega), if_neg (fun h => c2 h.2)]
        simp [spec_NumsOf.j0]
theorem law_at (X : List Int) (a : Int) (h1 : X.length ≤ 1048576) (k : Nat) (hk : X.length + 30 < k) (e1 : spec_NumsOf.f (k + 1) X a = some (numT X a)) (e2 : impl_NumsOf.f (k + 1) X a = some (numT X a)) (e3 : impl_NumsOf.f k X a = some (numT X a)) : laws_FnExactNumsOf.f (k + 1) X a = some true := by
  have hR := numT_len X a
  unfold laws_FnExactNumsOf.f
  rw [if_neg (by omega), toIntS_eq X h1 _ (by omega)]
  simp only [Option.bind_some]
  rw [e1, e2]
  simp only [Option.bind_some]
  rw [eqUint64S_eq _ (by omega) _ (by omega)]
  simp only [Option.bind_some, if_true]
  rw [eqIntS_eq X h1 _ (by omega)]
  simp only [Option.bind_some, if_true]
  rw [markI_eq 1 X h1 (by omega) (by omega) _ (by omega)]
  simp only [Option.bind_some]
  rw [if_neg (by omega)]
  simp only [laws_FnExactNumsOf.j0]
  simp only [Bool.not_true, Bool.false_eq_true, if_false]
  rw [markU_eq 1 (numT X a) (by omega) (by omega) (by omega) _ (by omega)]
  simp only [Option.bind_some]
  rw [heldU_eq _ (by omega) _ (by omega)]
  simp only [Option.bind_some]
  rw [if_neg (by omega), if_pos trivial, toIntS_eq X h1 _ (by omega)]
  simp only [Option.bind_some]
  rw [e3]
  simp only [Option.bind_some]
  rw [eqUint64S_eq _ (by omega) _ (by omega)]
  simp only [Option.bind_some, if_true]
  rw [if_neg (by omega)]
theorem FnExactNumsOf : laws_FnExactNumsOf.Pure := by
  intro l0 a1 _ _ _ _
  by_cases c : (l0.length : Int) > 1048576
  · exact ⟨0, by unfold laws_FnExactNumsOf.f; rw [if_pos c]⟩
  · obtain ⟨K, h⟩ := sNum l0 a1
    obtain ⟨K', h'⟩ := iNum l0 a1
    exact ⟨K + K' + l0.length + 31 + 1, law_at l0 a1 (by omega) _ (by omega) (h _ (by omega)) (h' _ (by omega)) (h' _ (by omega))⟩

end Go.Proofs.Ytbiighdgnaicnaa.Pure

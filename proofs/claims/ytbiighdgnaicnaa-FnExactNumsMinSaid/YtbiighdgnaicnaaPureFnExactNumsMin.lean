/- NumsMin answers as the reference, leaves its arguments alone and shares no memory -/
import Derived.Test.YtbiighdgnaicnaaPFnExactNumsMinx3
import Derived.Laws.BitsAllLaws
namespace Go.Proofs.Ytbiighdgnaicnaa.Pure
open Go.RowKit Go.Proofs.Ytbiighdgnaicnaa.PFnExactNumsMin Go.Proofs.YtbiighdgnaicnaaW.PrintWords Go.Proofs.YtbiighdgnaicnaaW.PrintLast Go.Proofs.YtbiighdgnaicnaaW.PrintMore
set_option linter.unusedVariables false
set_option linter.unusedSimpArgs false

def Ev (P : Nat → Prop) : Prop := ∃ K, ∀ k, K ≤ k → P k
theorem Ev.up {P Q : Nat → Prop} (h : Ev P) (f : ∀ k, P k → Q (k + 1)) : Ev Q := by
  obtain ⟨K, h⟩ := h
  exact ⟨K + 1, fun k hk => by
    obtain ⟨m, rfl⟩ : ∃ m, k = m + 1 := ⟨k - 1, by omega⟩
    exact f m (h m (by omega))⟩
theorem Ev.and {P Q : Nat → Prop} (h : Ev P) (h' : Ev Q) : Ev fun k => P k ∧ Q k := by
  obtain ⟨K, h⟩ := h
  obtain ⟨K', h'⟩ := h'
  exact ⟨K + K', fun k hk => ⟨h k (by omega), h' k (by omega)⟩⟩
theorem Ev.imp {P Q : Nat → Prop} (h : Ev P) (f : ∀ k, P k → Q k) : Ev Q := by
  obtain ⟨K, h⟩ := h
  exact ⟨K, fun k hk => f k (h k hk)⟩
theorem Ev.from {P : Nat → Prop} (K : Nat) (h : ∀ k, K ≤ k → P k) : Ev P := ⟨K, h⟩
theorem w_up (n : Nat) (h : n ≤ 2000000) : wrap64 (((n + 1 : Nat) : Int) - 1) = (n : Int) := by unfold wrap64; omega
theorem w_inc (n : Nat) (h : n ≤ 2000000) : wrap64 ((n : Int) + 1) = ((n + 1 : Nat) : Int) := by unfold wrap64; omega
theorem w_half (y : Nat) (h : y < 18446744073709551616) : wrap64 ((y / 2 : Nat) : Int) = ((y / 2 : Nat) : Int) := by unfold wrap64; omega
theorem w_tw (r : Nat) (h : 2 * r ≤ 9223372036854775808) : IntKind.u64.wrap (2 * (r : Int)) = ((2 * r : Nat) : Int) := by rw [IntKind.wrap_u64]; omega
theorem w_sum (a b : Nat) (h : a ≤ b) (hb : b ≤ 9223372036854775808) (h2 : a < b ∨ a < b := by omega) : IntKind.u64.wrap ((a : Int) + (b : Int)) = ((a + b : Nat) : Int) := by rw [IntKind.wrap_u64]; omega
def two64 : Nat := 18446744073709551616
def Uu (l : List Int) : Prop := ∀ x, x ∈ l → 0 ≤ x ∧ x < 18446744073709551616
/-- Plane k of a number, as a natural number. -/
def pl (l : List Int) (k : Nat) : Nat := (rd l (k : Int)).toNat
theorem rd_pl (l : List Int) (h : Uu l) (k : Nat) : rd l (k : Int) = ((pl l k : Nat) : Int) ∧ pl l k < 18446744073709551616 := by
  by_cases c : k < l.length
  · have e : rd l (k : Int) = l[k] := by simp [rd, c]
    have := h l[k] (List.getElem_mem _)
    unfold pl
    rw [e]
    omega
  · have e : rd l (k : Int) = 0 := by simp [rd, List.getElem?_eq_none (Nat.le_of_not_lt c)]
    unfold pl
    rw [e]
    omega
theorem tb (v j : Nat) : v.testBit j = decide (v / 2 ^ j % 2 = 1) := Nat.testBit_eq_decide_div_mod_eq
theorem addpow (x i k : Nat) (h : x < 2 ^ i) : (x + 2 ^ i).testBit k = (decide (k = i) || x.testBit k) := by
  rw [Nat.add_comm]
  rcases Nat.lt_trichotomy k i with c | c | c
  · rw [Nat.testBit_two_pow_add_gt c, decide_eq_false (by omega)]; rfl
  · subst c
    rw [Nat.testBit_two_pow_add_eq, Nat.testBit_lt_two_pow h]; simp
  · have h1 : 2 ^ i + x < 2 ^ k := by
      have : 2 ^ (i + 1) ≤ 2 ^ k := Nat.pow_le_pow_right (by omega) (by omega)
      rw [Nat.pow_succ] at this
      omega
    have h2 : x < 2 ^ k := by omega
    rw [Nat.testBit_lt_two_pow h1, Nat.testBit_lt_two_pow h2, decide_eq_false (by omega)]; rfl
/-- The number of lane j: its lowest i planes. -/
def valTo (l : List Int) (j : Nat) : Nat → Nat
  | 0 => 0
  | i + 1 => if (pl l i).testBit j = true then valTo l j i + 2 ^ i else valTo l j i
theorem valTo_lt (l : List Int) (j : Nat) : ∀ i, valTo l j i < 2 ^ i
  | 0 => by simp [valTo]
  | i + 1 => by
    have := valTo_lt l j i
    unfold valTo
    rw [Nat.pow_succ]
    split <;> omega
theorem valTo_bit (l : List Int) (j k : Nat) : ∀ i, (valTo l j i).testBit k = (decide (k < i) && (pl l k).testBit j)
  | 0 => by simp [valTo]
  | i + 1 => by
    have h := valTo_bit l j k i
    unfold valTo
    by_cases c : (pl l i).testBit j = true
    · rw [if_pos c, addpow _ _ _ (valTo_lt l j i), h]
      by_cases e : k = i
      · subst e; simp [c]
      · have : decide (k < i + 1) = decide (k < i) := by simp; omega
        rw [this, decide_eq_false e]; rfl
    · rw [if_neg c, h]
      by_cases e : k = i
      · subst e; simp [Bool.eq_false_iff.2 c]
      · have : decide (k < i + 1) = decide (k < i) := by simp; omega
        rw [this]
theorem shr_u (v j : Nat) (h : j ≤ 64) : shr .u64 (v : Int) (j : Int) = ((v / 2 ^ j : Nat) : Int) := by
  unfold shr
  rw [Int.toNat_natCast, show min j IntKind.u64.bits = j from Nat.min_eq_left h, Int.natCast_ediv, Int.natCast_pow]; rfl
theorem bit_eq (v j : Nat) (hv : v < 18446744073709551616) (hj : j < 64) : spec_l03Bit.f (v : Int) (j : Int) = some (v.testBit j) := by
  unfold spec_l03Bit.f
  have e : IntKind.u64.wrap (j : Int) = (j : Int) := by rw [IntKind.wrap_u64]; omega
  have hle : v / 2 ^ j ≤ v := Nat.div_le_self _ _
  have ha := bits_and_u64_nat (v / 2 ^ j) 1 (by omega) (by omega)
  rw [e, if_pos (by omega), shr_u v j (by omega), tb]
  rw [show (1 : Int) = ((1 : Nat) : Int) from rfl, ha, Nat.and_one_is_mod]
  congr 1
  by_cases c : v / 2 ^ j % 2 = 1
  · rw [c, decide_eq_true rfl]; rfl
  · rw [decide_eq_false c]
    exact beq_eq_false_iff_ne.2 (by omega)
theorem w_get1 (t : Nat) (h : t ≤ 2000000) : wrap64 (wrap64 (2 * (t : Int)) + 1) = ((2 * t + 1 : Nat) : Int) := by unfold wrap64; omega
theorem w_get0 (t : Nat) (h : t ≤ 2000000) : wrap64 (2 * (t : Int)) = ((2 * t : Nat) : Int) := by unfold wrap64; omega
theorem w_dn (i : Nat) (h : i ≤ 2000000) : wrap64 ((i : Int) - 1) = (i : Int) - 1 := by unfold wrap64; omega
theorem get_l0 (B : Nat) (l : List Int) (hu : Uu l) (hl : l.length ≤ 16) (j : Nat) (hj : j < 64) : ∀ (i k t : Nat), i ≤ l.length → i < k → (t + 1) * 2 ^ i ≤ B → B ≤ 1048576 → spec_l07Get.l0 k l (j : Int) (t : Int) ((i : Int) - 1) = some ((t * 2 ^ i + valTo l j i : Nat) : Int)
  | 0, k, t, _, hk, _, _ => by
    obtain ⟨k, rfl⟩ : ∃ m, k = m + 1 := ⟨k - 1, by omega⟩
    simp [spec_l07Get.l0, valTo]
  | i + 1, k, t, hi, hk, h1, hB => by
    obtain ⟨k, rfl⟩ : ∃ m, k = m + 1 := ⟨k - 1, by omega⟩
    have hp : 0 < 2 ^ (i + 1) := Nat.two_pow_pos (i + 1)
    have h6 : t + 1 ≤ (t + 1) * 2 ^ (i + 1) := Nat.le_mul_of_pos_right _ hp
    have h3 : ∀ m, m * 2 ^ (i + 1) = 2 * m * 2 ^ i := fun m => by rw [Nat.pow_succ, Nat.mul_comm 2 m, Nat.mul_assoc, Nat.mul_comm 2 (2 ^ i)]
    have h5 : (2 * t + 1) * 2 ^ i = 2 * t * 2 ^ i + 2 ^ i := by rw [Nat.add_mul, Nat.one_mul]
    have h7 : (2 * t + 1 + 1) * 2 ^ i = (t + 1) * 2 ^ (i + 1) := by rw [h3]; congr 1
    have h8 : (2 * t + 1) * 2 ^ i ≤ (2 * t + 1 + 1) * 2 ^ i := Nat.mul_le_mul_right _ (by omega)
    have ht : t ≤ 1048576 := by omega
    have hi2 : i ≤ 16 := by omega
    obtain ⟨e, hv⟩ := rd_pl l hu i
    simp only [spec_l07Get.l0]
    rw [show ((i + 1 : Nat) : Int) - 1 = (i : Int) from by omega, if_pos (by omega), if_pos (by omega), if_pos (by omega), e, bit_eq _ j hv hj]
    simp only [Option.bind_some]
    unfold valTo
    rw [h3 t]
    by_cases c : (pl l i).testBit j = true
    · rw [if_pos c, if_pos c, w_get1 t (by omega), w_dn i (by omega), get_l0 B l hu hl j hj i k (2 * t + 1) (by omega) (by omega) (by rw [h7]; exact h1) hB, h5]
      congr 2
      rw [Nat.add_right_comm, Nat.add_assoc]
    · rw [if_neg c, if_neg c, w_get0 t (by omega), w_dn i (by omega), get_l0 B l hu hl j hj i k (2 * t) (by omega) (by omega) (Nat.le_trans h8 (by rw [h7]; exact h1)) hB]
theorem get_eq (l : List Int) (hu : Uu l) (hl : l.length ≤ 16) (j : Nat) (hj : j < 64) (k : Nat) (hk : l.length < k) : spec_l07Get.f k l (j : Int) = some ((valTo l j l.length : Nat) : Int) := by
  unfold spec_l07Get.f
  rw [show wrap64 ((l.length : Int) - 1) = (l.length : Int) - 1 from by unfold wrap64; omega]
  have hp : 2 ^ l.length ≤ 65536 := Nat.le_trans (Nat.pow_le_pow_right (by omega) hl) (by decide)
  have := get_l0 65536 l hu hl j hj l.length k 0 (by omega) hk (by omega) (by omega)
  simpa using this
theorem pow_u0 : ∀ (n k r : Nat), n < k → n ≤ 63 → r * 2 ^ n ≤ 9223372036854775808 → 1 ≤ r → spec_l06Power.l0 k (n : Int) (r : Int) = some ((r * 2 ^ n : Nat) : Int)
  | 0, k, r, hk, _, _, _ => by
    obtain ⟨k, rfl⟩ : ∃ m, k = m + 1 := ⟨k - 1, by omega⟩
    simp [spec_l06Power.l0]
  | n + 1, k, r, hk, hn, h, hr => by
    obtain ⟨k, rfl⟩ : ∃ m, k = m + 1 := ⟨k - 1, by omega⟩
    have e : r * 2 ^ (n + 1) = 2 * r * 2 ^ n := by rw [Nat.pow_succ, Nat.mul_comm 2 r, Nat.mul_assoc, Nat.mul_comm 2 (2 ^ n)]
    have hle : 2 * r ≤ 2 * r * 2 ^ n := Nat.le_mul_of_pos_right _ (Nat.two_pow_pos n)
    rw [e] at h ⊢
    have hle2 : 2 * r ≤ 9223372036854775808 := Nat.le_trans hle h
    simp only [spec_l06Power.l0]
    rw [if_pos (by omega), w_up n (by omega), w_tw r hle2]
    exact pow_u0 n k (2 * r) (by omega) (by omega) h (by omega)
theorem pow_u (n k : Nat) (hn : n ≤ 63) (hk : n < k) : spec_l06Power.f k (n : Int) = some ((2 ^ n : Nat) : Int) := by
  have hp : 2 ^ n ≤ 9223372036854775808 := Nat.le_trans (Nat.pow_le_pow_right (by omega) hn) (by decide)
  unfold spec_l06Power.f
  have := pow_u0 n k 1 hk hn (by omega) (by omega)
  simpa using this
/-- The planes of a list's first m numbers. -/
def plist (X : List Int) (p m : Nat) : List Int := (List.range p).map fun (k : Nat) => ((valTo X k m : Nat) : Int)
theorem plist_len (X : List Int) (p m : Nat) : (plist X p m).length = p := by simp [plist]
theorem plist_get (X : List Int) (p m i : Nat) (h : i < (plist X p m).length) : (plist X p m)[i] = ((valTo X i m : Nat) : Int) := by simp [plist]
theorem put_l1 (X : List Int) (hu : Uu X) (hX : X.length ≤ 64) (p : Nat) (hp : p ≤ 64) (m : Nat) (hm : m < X.length) (r : List Int) (tail : Ev fun k => spec_l07Put.l0 k X (p : Int) (plist X p (m + 1)) ((m + 1 : Nat) : Int) = some r) :
    ∀ (d i : Nat) (l : List Int), p - i = d → i ≤ p → l.length = p → l.take i = (plist X p (m + 1)).take i → l.drop i = (plist X p m).drop i → Ev fun k => spec_l07Put.l1 k X (p : Int) l (m : Int) ((pl X m / 2 ^ i : Nat) : Int) (i : Int) = some r := by
  intro d
  induction d with
  | zero =>
    intro i l hd hi hl h1 h2
    have e : i = p := by omega
    subst e
    rw [List.take_of_length_le (by omega), List.take_of_length_le (by rw [plist_len]; omega)] at h1
    subst h1
    refine tail.up fun k hk => ?_
    simp only [spec_l07Put.l1]
    rw [if_neg (by omega), w_inc m (by omega)]
    exact hk
  | succ d ih =>
    intro i l hd hi hl h1 h2
    have hlt : i < p := by omega
    have hp1 : i < (plist X p m).length := by rw [plist_len]; exact hlt
    have hp2 : i < (plist X p (m + 1)).length := by rw [plist_len]; exact hlt
    have hcur : l[i]'(by omega) = ((valTo X i m : Nat) : Int) := by
      have := congrArg (fun z => z[0]?) h2
      simp only [List.getElem?_drop, Nat.add_zero] at this
      rw [List.getElem?_eq_getElem (by omega), List.getElem?_eq_getElem hp1, plist_get] at this
      exact Option.some.inj this
    have hdr : l.drop (i + 1) = (plist X p m).drop (i + 1) := by
      have := congrArg (List.drop 1) h2
      simpa [List.drop_drop, Nat.add_comm] using this
    have hv := rd_pl X hu m
    have hq : pl X m / 2 ^ i ≤ pl X m := Nat.div_le_self _ _
    have e2 : pl X m / 2 ^ (i + 1) = pl X m / 2 ^ i / 2 := by rw [Nat.pow_succ, Nat.div_div_eq_div_mul]
    have hlow := valTo_lt X i m
    have h64 : 2 ^ m ≤ 9223372036854775808 := Nat.le_trans (Nat.pow_le_pow_right (by omega) (show m ≤ 63 by omega)) (by decide)
    by_cases c : (pl X m).testBit i = true
    · have hodd : pl X m / 2 ^ i % 2 = 1 := by rw [tb] at c; exact of_decide_eq_true c
      have hnew : valTo X i (m + 1) = valTo X i m + 2 ^ m := by rw [valTo, if_pos c]
      have ht : (l.set i ((valTo X i (m + 1) : Nat) : Int)).take (i + 1) = (plist X p (m + 1)).take (i + 1) := by
        rw [List.take_add_one, List.take_add_one, List.take_set_of_le (Nat.le_refl _), h1, List.getElem?_eq_getElem hp2, plist_get]
        simp [hl, hlt]
      refine ((ih (i + 1) (l.set i ((valTo X i (m + 1) : Nat) : Int)) (by omega) (by omega) (by simpa using hl) ht (by rw [List.drop_set_of_lt (by omega)]; exact hdr)).and (Ev.from (P := fun k => m < k) (m + 1) fun k hk => hk)).up fun k hk => ?_
      obtain ⟨hk, hk2⟩ := hk
      rw [e2] at hk
      simp only [spec_l07Put.l1]
      have er : rd l (i : Int) = ((valTo X i m : Nat) : Int) := by
        rw [← hcur]; simp [rd, hl, hlt]
      rw [er, pow_u m k (by omega) hk2]
      generalize pl X m / 2 ^ i = y at hk hq hodd ⊢
      rw [if_pos (by omega), if_pos (by rw [show Int.tmod (y : Int) 2 = ((y % 2 : Nat) : Int) from rfl, hodd]; rfl), if_pos (by omega), if_pos (by omega)]
      simp only [Option.bind_some]
      rw [Int.toNat_natCast, w_sum (valTo X i m) (2 ^ m) (by omega) h64, ← hnew, show Int.tdiv (y : Int) 2 = ((y / 2 : Nat) : Int) from rfl, w_half y (by omega), w_inc i (by omega)]
      exact hk
    · have heven : ¬ pl X m / 2 ^ i % 2 = 1 := by rw [tb] at c; intro h; exact c (decide_eq_true h)
      have hnew : valTo X i (m + 1) = valTo X i m := by rw [valTo, if_neg c]
      have ht : l.take (i + 1) = (plist X p (m + 1)).take (i + 1) := by
        rw [List.take_add_one, List.take_add_one, h1, List.getElem?_eq_getElem hp2, plist_get, List.getElem?_eq_getElem (by omega), hcur, hnew]
      refine (ih (i + 1) l (by omega) (by omega) hl ht hdr).up fun k hk => ?_
      rw [e2] at hk
      simp only [spec_l07Put.l1]
      generalize pl X m / 2 ^ i = y at hk hq heven ⊢
      rw [if_pos (by omega), if_neg (by rw [show Int.tmod (y : Int) 2 = ((y % 2 : Nat) : Int) from rfl]; omega), show Int.tdiv (y : Int) 2 = ((y / 2 : Nat) : Int) from rfl, w_half y (by omega), w_inc i (by omega)]
      exact hk
theorem put_l0 (X : List Int) (hu : Uu X) (hX : X.length ≤ 64) (p : Nat) (hp : p ≤ 64) : ∀ (d m : Nat), X.length - m = d → m ≤ X.length → Ev fun k => spec_l07Put.l0 k X (p : Int) (plist X p m) (m : Int) = some (plist X p X.length) := by
  intro d
  induction d with
  | zero =>
    intro m hd hm
    have e : m = X.length := by omega
    refine Ev.from 1 fun k hk => ?_
    obtain ⟨k, rfl⟩ : ∃ m, k = m + 1 := ⟨k - 1, by omega⟩
    simp only [spec_l07Put.l0]
    rw [if_neg (by omega), e]
  | succ d ih =>
    intro m hd hm
    have hlt : m < X.length := by omega
    have l1 := put_l1 X hu hX p hp m hlt _ (ih (m + 1) (by omega) (by omega)) p 0 (plist X p m) (by omega) (by omega) (plist_len X p m) rfl rfl
    refine l1.up fun k hk => ?_
    simp only [spec_l07Put.l0]
    rw [if_pos (by omega), if_pos (by omega), (rd_pl X hu m).1]
    rw [Nat.pow_zero, Nat.div_one] at hk
    exact hk
theorem put_eq (X : List Int) (hu : Uu X) (hX : X.length ≤ 64) (p : Nat) (hp : p ≤ 64) : Ev fun k => spec_l07Put.f k X (p : Int) = some (plist X p X.length) := by
  refine (put_l0 X hu hX p hp X.length 0 (by omega) (by omega)).imp fun k hk => ?_
  unfold spec_l07Put.f
  rw [if_pos (by omega), if_pos (by omega), Int.toNat_natCast]
  have e : plist X p 0 = List.replicate p 0 := by
    apply List.ext_getElem
    · simp [plist]
    · intro i h1 h2
      rw [plist_get]; simp [valTo]
  rw [e] at hk
  exact hk
def selN (m a b : Nat) : Nat := (a &&& m) ||| (b &&& (18446744073709551615 - m))
theorem sel_lt (m a b : Nat) (ha : a < 18446744073709551616) (hb : b < 18446744073709551616) : selN m a b < 18446744073709551616 := by
  have h1 : a &&& m < 18446744073709551616 := Nat.lt_of_le_of_lt Nat.and_le_left ha
  have h2 : b &&& (18446744073709551615 - m) < 18446744073709551616 := Nat.lt_of_le_of_lt Nat.and_le_left hb
  exact Nat.or_lt_two_pow (n := 64) h1 h2
theorem sel_eq (m a b : Nat) (hm : m < 18446744073709551616) (ha : a < 18446744073709551616) (hb : b < 18446744073709551616) : impl_Select.f (m : Int) (a : Int) (b : Int) = some ((selN m a b : Nat) : Int) := by
  have h1 : a &&& m < 18446744073709551616 := Nat.lt_of_le_of_lt Nat.and_le_left ha
  have h2 : b &&& (18446744073709551615 - m) < 18446744073709551616 := Nat.lt_of_le_of_lt Nat.and_le_left hb
  unfold impl_Select.f selN
  rw [bits_and_u64_nat a m ha hm, u64_andNot_nat b m hb hm, bits_or_u64_nat _ _ h1 h2]
theorem sel_bit (m a b j : Nat) (hm : m < 18446744073709551616) (hj : j < 64) : (selN m a b).testBit j = if m.testBit j = true then a.testBit j else b.testBit j := by
  have e : (18446744073709551615 - m).testBit j = !m.testBit j := by
    have := Nat.testBit_two_pow_sub_succ (n := 64) (x := m) hm j
    rw [decide_eq_true hj, Bool.true_and] at this
    rw [← this]
    congr 1
    have h64 : (2 : Nat) ^ 64 = 18446744073709551616 := by decide
    rw [h64]; omega
  unfold selN
  rw [Nat.testBit_or, Nat.testBit_and, Nat.testBit_and, e]
  cases m.testBit j <;> simp
/-- The plane of the lanes whose number is less, by the lowest i planes. -/
def lessTo (a b : List Int) : Nat → Nat
  | 0 => 0
  | i + 1 => selN (pl a i ^^^ pl b i) (pl b i) (lessTo a b i)
theorem lessTo_lt (a b : List Int) (hb : Uu b) : ∀ i, lessTo a b i < 18446744073709551616
  | 0 => by simp [lessTo]
  | i + 1 => sel_lt _ _ _ (rd_pl b hb i).2 (lessTo_lt a b hb i)
theorem xor_lt (x y : Nat) (hx : x < 18446744073709551616) (hy : y < 18446744073709551616) : x ^^^ y < 18446744073709551616 := Nat.xor_lt_two_pow (n := 64) hx hy
theorem lessTo_bit (a b : List Int) (ha : Uu a) (hb : Uu b) (j : Nat) (hj : j < 64) : ∀ i, (lessTo a b i).testBit j = decide (valTo a j i < valTo b j i)
  | 0 => by simp [lessTo, valTo]
  | i + 1 => by
    have h := lessTo_bit a b ha hb j hj i
    have l1 := valTo_lt a j i
    have l2 := valTo_lt b j i
    unfold lessTo
    rw [sel_bit _ _ _ j (xor_lt _ _ (rd_pl a ha i).2 (rd_pl b hb i).2) hj, Nat.testBit_xor, h]
    rw [show valTo a j (i + 1) = (if (pl a i).testBit j = true then valTo a j i + 2 ^ i else valTo a j i) from rfl, show valTo b j (i + 1) = (if (pl b i).testBit j = true then valTo b j i + 2 ^ i else valTo b j i) from rfl]
    generalize 2 ^ i = z at l1 l2 ⊢
    generalize valTo a j i = x at l1 ⊢
    generalize valTo b j i = y at l2 ⊢
    cases (pl a i).testBit j <;> cases (pl b i).testBit j <;> simp <;> omega
theorem less_l0 (a b : List Int) (ha : Uu a) (hb : Uu b) (n : Nat) (hn : n ≤ 16) (hla : a.length = n) (hlb : b.length = n) : ∀ (d k i : Nat), n - i = d → i ≤ n → d < k → impl_numsLess.l0 k a b ((lessTo a b i : Nat) : Int) (n : Int) (i : Int) = some ((lessTo a b n : Nat) : Int) := by
  intro d
  induction d with
  | zero =>
    intro k i hd hi hk
    obtain ⟨k, rfl⟩ : ∃ m, k = m + 1 := ⟨k - 1, by omega⟩
    simp only [impl_numsLess.l0]
    rw [if_neg (by omega), show i = n by omega]
  | succ d ih =>
    intro k i hd hi hk
    obtain ⟨k, rfl⟩ : ∃ m, k = m + 1 := ⟨k - 1, by omega⟩
    have qa := rd_pl a ha i
    have qb := rd_pl b hb i
    simp only [impl_numsLess.l0]
    rw [if_pos (by omega), if_pos (by omega), if_pos (by omega), if_pos (by omega), qa.1, qb.1, bits_xor_u64_nat _ _ qa.2 qb.2, sel_eq _ _ _ (xor_lt _ _ qa.2 qb.2) qb.2 (lessTo_lt a b hb i)]
    simp only [Option.bind_some]
    rw [w_inc i (by omega)]
    exact ih k (i + 1) (by omega) (by omega) (by omega)
theorem less_eq (a b : List Int) (ha : Uu a) (hb : Uu b) (hn : a.length ≤ 16) (he : b.length = a.length) (k : Nat) (hk : a.length < k) : impl_numsLess.f k a b = some ((lessTo a b a.length : Nat) : Int) := by
  unfold impl_numsLess.f
  have := less_l0 a b ha hb a.length hn rfl he a.length k 0 (by omega) (by omega) hk
  simpa [lessTo] using this
theorem take_set_Uint64S (x l : List Int) (i : Nat) (hi : i < l.length) (hx : x.length = l.length) (h : x.take i = l.take i) : (x.set i (rd l (i : Int))).take (i + 1) = l.take (i + 1) := by
  have hr : rd l (i : Int) = l[i] := by simp [rd, hi]
  rw [hr, List.take_add_one, List.take_add_one, List.take_set_of_le (Nat.le_refl _), h]
  simp [hi, hx]
theorem toUint64S_l0 (l : List Int) (hl : l.length ≤ 1048576) : ∀ (d k i : Nat) (x : List Int), x.length = l.length → i ≤ l.length → l.length - i = d → d < k → x.take i = l.take i → laws_toUint64S.l0 k l x (i : Int) = some l := by
  intro d
  induction d with
  | zero =>
    intro k i x hx hi hd hk h
    obtain ⟨k, rfl⟩ : ∃ m, k = m + 1 := ⟨k - 1, by omega⟩
    simp only [laws_toUint64S.l0]
    rw [if_neg (by omega)]
    rw [List.take_of_length_le (by omega), List.take_of_length_le (by omega)] at h
    rw [h]
  | succ d ih =>
    intro k i x hx hi hd hk h
    obtain ⟨k, rfl⟩ : ∃ m, k = m + 1 := ⟨k - 1, by omega⟩
    simp only [laws_toUint64S.l0]
    rw [if_pos (by omega), if_pos (by omega), if_pos (by omega), show wrap64 ((i : Int) + 1) = ((i + 1 : Nat) : Int) from by unfold wrap64; omega, Int.toNat_natCast]
    exact ih k (i + 1) _ (by simp [hx]) (by omega) (by omega) (by omega) (take_set_Uint64S x l i (by omega) hx h)
theorem toUint64S_eq (l : List Int) (hl : l.length ≤ 1048576) (k : Nat) (hk : l.length < k) : laws_toUint64S.f k l = some l := by
  unfold laws_toUint64S.f
  rw [if_pos (by omega), if_pos (by omega)]
  exact toUint64S_l0 l hl l.length k 0 _ (by simp) (by omega) (by omega) hk rfl
theorem eqUint64S_l0 (a : List Int) (ha : a.length ≤ 1048576) : ∀ (d k i : Nat), i ≤ a.length → a.length - i = d → d < k → laws_eqUint64S.l0 k a a (i : Int) = some true := by
  intro d
  induction d with
  | zero =>
    intro k i hi hd hk
    obtain ⟨k, rfl⟩ : ∃ m, k = m + 1 := ⟨k - 1, by omega⟩
    simp only [laws_eqUint64S.l0]
    rw [if_neg (by omega)]
  | succ d ih =>
    intro k i hi hd hk
    obtain ⟨k, rfl⟩ : ∃ m, k = m + 1 := ⟨k - 1, by omega⟩
    simp only [laws_eqUint64S.l0]
    rw [if_pos (by omega), if_pos (by omega), if_pos (by omega), if_pos trivial, show wrap64 ((i : Int) + 1) = ((i + 1 : Nat) : Int) from by unfold wrap64; omega]
    exact ih k (i + 1) (by omega) (by omega) (by omega)
theorem eqUint64S_eq (a : List Int) (ha : a.length ≤ 1048576) (k : Nat) (hk : a.length < k) : laws_eqUint64S.f k a a = some true := by
  unfold laws_eqUint64S.f
  rw [if_pos rfl]
  exact eqUint64S_l0 a ha a.length k 0 (by omega) (by omega) hk
def mkU (a : Int) (n : Nat) : List Int := (List.range n).map fun (i : Nat) => a + (i : Int)
theorem mkU_length (a : Int) (n : Nat) : (mkU a n).length = n := by simp [mkU]
theorem mkU_step (a : Int) (x : List Int) (n i : Nat) (hi : i < n) (hx : x.length = n) (h : x.take i = (mkU a n).take i) : (x.set i (a + (i : Int))).take (i + 1) = (mkU a n).take (i + 1) := by
  rw [List.take_add_one, List.take_add_one, List.take_set_of_le (Nat.le_refl _), h]
  simp [hi, hx, mkU]
theorem markU_l0 (a : Int) (n : Nat) (hn : n ≤ 1048576) (ha0 : 0 ≤ a) (ha : a ≤ 4194304) : ∀ (d k i : Nat) (x : List Int), x.length = n → i ≤ n → n - i = d → d < k → x.take i = (mkU a n).take i →
    laws_markUint64S.l0 k x (a + (i : Int)) (i : Int) = some (a + (n : Int), mkU a n) := by
  intro d
  induction d with
  | zero =>
    intro k i x hx hi hd hk h
    obtain ⟨k, rfl⟩ : ∃ m, k = m + 1 := ⟨k - 1, by omega⟩
    simp only [laws_markUint64S.l0]
    rw [if_neg (by omega)]
    rw [List.take_of_length_le (by omega), List.take_of_length_le (by rw [mkU_length]; omega)] at h
    rw [h, show i = n by omega]
  | succ d ih =>
    intro k i x hx hi hd hk h
    obtain ⟨k, rfl⟩ : ∃ m, k = m + 1 := ⟨k - 1, by omega⟩
    simp only [laws_markUint64S.l0]
    rw [if_pos (by omega), if_pos (by omega), show IntKind.u64.wrap (a + (i : Int)) = a + (i : Int) from by rw [IntKind.wrap_u64]; omega, show wrap64 (a + (i : Int) + 1) = a + ((i + 1 : Nat) : Int) from by unfold wrap64; omega, show wrap64 ((i : Int) + 1) = ((i + 1 : Nat) : Int) from by unfold wrap64; omega, Int.toNat_natCast]
    exact ih k (i + 1) _ (by simp [hx]) (by omega) (by omega) (by omega) (mkU_step a x n i (by omega) hx h)
theorem markU_eq (a : Int) (l : List Int) (hl : l.length ≤ 1048576) (ha0 : 0 ≤ a) (ha : a ≤ 4194304) (k : Nat) (hk : l.length < k) : laws_markUint64S.f k l a = some (a + (l.length : Int), mkU a l.length) := by
  unfold laws_markUint64S.f
  have := markU_l0 a l.length hl ha0 ha l.length k 0 l rfl (by omega) (by omega) hk rfl
  simpa using this
theorem heldU_l0 (n : Nat) (hn : n ≤ 1048576) : ∀ (d k i : Nat), i ≤ n → n - i = d → d < k → laws_heldUint64S.l0 k (mkU 1 n) (1 + (i : Int)) (i : Int) = some (1 + (n : Int)) := by
  intro d
  induction d with
  | zero =>
    intro k i hi hd hk
    obtain ⟨k, rfl⟩ : ∃ m, k = m + 1 := ⟨k - 1, by omega⟩
    simp only [laws_heldUint64S.l0]
    rw [if_neg (by rw [mkU_length]; omega), show i = n by omega]
  | succ d ih =>
    intro k i hi hd hk
    obtain ⟨k, rfl⟩ : ∃ m, k = m + 1 := ⟨k - 1, by omega⟩
    simp only [laws_heldUint64S.l0]
    have e : rd (mkU 1 n) (i : Int) = 1 + (i : Int) := by
      have : i < n := by omega
      simp [rd, mkU, this]
    rw [if_pos (by rw [mkU_length]; omega), if_pos (by omega), show IntKind.u64.wrap (1 + (i : Int)) = 1 + (i : Int) from by rw [IntKind.wrap_u64]; omega, if_pos e, show wrap64 (1 + (i : Int) + 1) = 1 + ((i + 1 : Nat) : Int) from by unfold wrap64; omega, show wrap64 ((i : Int) + 1) = ((i + 1 : Nat) : Int) from by unfold wrap64; omega]
    exact ih k (i + 1) (by omega) (by omega) (by omega)
theorem heldU_eq (n : Nat) (hn : n ≤ 1048576) (k : Nat) (hk : n < k) : laws_heldUint64S.f k (mkU 1 n) 1 = some (1 + (n : Int)) := by
  unfold laws_heldUint64S.f
  have := heldU_l0 n hn n k 0 (by omega) (by omega) hk
  simpa using this
def minL (a b : List Int) (m n : Nat) : List Int := (List.range n).map fun (i : Nat) => ((selN m (pl a i) (pl b i) : Nat) : Int)
theorem minL_len (a b : List Int) (m n : Nat) : (minL a b m n).length = n := by simp [minL]
theorem minL_step (a b : List Int) (m n : Nat) (x : List Int) (i : Nat) (hi : i < n) (hx : x.length = n) (h : x.take i = (minL a b m n).take i) : (x.set i ((selN m (pl a i) (pl b i) : Nat) : Int)).take (i + 1) = (minL a b m n).take (i + 1) := by
  rw [List.take_add_one, List.take_add_one, List.take_set_of_le (Nat.le_refl _), h]
  simp [hi, hx, minL]
theorem min_l0 (a b : List Int) (ha : Uu a) (hb : Uu b) (n : Nat) (hn : n ≤ 16) (hla : a.length = n) (hlb : b.length = n) (m : Nat) (hm : m < 18446744073709551616) : ∀ (d k i : Nat) (x : List Int), n - i = d → i ≤ n → d < k → x.length = n → x.take i = (minL a b m n).take i → impl_NumsMin.l0 k a b (m : Int) x (n : Int) (i : Int) = some (minL a b m n) := by
  intro d
  induction d with
  | zero =>
    intro k i x hd hi hk hx h
    obtain ⟨k, rfl⟩ : ∃ m, k = m + 1 := ⟨k - 1, by omega⟩
    rw [List.take_of_length_le (by omega), List.take_of_length_le (by rw [minL_len]; omega)] at h
    simp only [impl_NumsMin.l0]
    rw [if_neg (by omega), h]
  | succ d ih =>
    intro k i x hd hi hk hx h
    obtain ⟨k, rfl⟩ : ∃ m, k = m + 1 := ⟨k - 1, by omega⟩
    have qa := rd_pl a ha i
    have qb := rd_pl b hb i
    simp only [impl_NumsMin.l0]
    rw [if_pos (by omega), if_pos (by omega), if_pos (by omega), if_pos (by omega), qa.1, qb.1, sel_eq m _ _ hm qa.2 qb.2]
    simp only [Option.bind_some]
    rw [if_pos (by omega), Int.toNat_natCast, w_inc i (by omega)]
    exact ih k (i + 1) _ (by omega) (by omega) (by omega) (by simpa using hx) (minL_step a b m n x i (by omega) hx h)
def minR (a b : List Int) : List Int := if a.length = b.length ∧ a.length ≤ 16 then minL a b (lessTo a b a.length) a.length else []
theorem minR_len (a b : List Int) : (minR a b).length ≤ 16 := by
  unfold minR
  split
  · rename_i h; rw [minL_len]; exact h.2
  · simp
theorem iMin (a b : List Int) (ha : Uu a) (hb : Uu b) (k : Nat) (hk : 16 < k) : impl_NumsMin.f k a b = some (minR a b) := by
  unfold impl_NumsMin.f impl_areAlike.f minR
  by_cases c : (a.length : Int) = (b.length : Int)
  · rw [if_pos c]
    simp only [Option.bind_some]
    by_cases c2 : (a.length : Int) ≤ 16
    · rw [decide_eq_true c2, if_pos rfl, if_pos ⟨by omega, by omega⟩, less_eq a b ha hb (by omega) (by omega) k (by omega)]
      simp only [Option.bind_some]
      rw [if_pos (by omega), if_pos (by omega)]
      have := min_l0 a b ha hb a.length (by omega) rfl (by omega) _ (lessTo_lt a b hb a.length) a.length k 0 (List.replicate (a.length : Int).toNat 0) (by omega) (by omega) (by omega) (by simp) rfl
      simpa using this
    · rw [decide_eq_false c2, if_neg (by decide), if_neg (fun h => c2 (by omega))]
  · rw [if_neg c]
    simp only [Option.bind_some]
    rw [if_neg (by decide), if_neg (fun h => c (by omega))]
/-- The lanes' minima. -/
def mins (a b : List Int) (m : Nat) : List Int := (List.range m).map fun (j : Nat) => mn ((valTo a j a.length : Nat) : Int) ((valTo b j b.length : Nat) : Int)
theorem mins_len (a b : List Int) (m : Nat) : (mins a b m).length = m := by simp [mins]
theorem mins_succ (a b : List Int) (m : Nat) : mins a b (m + 1) = mins a b m ++ [mn ((valTo a m a.length : Nat) : Int) ((valTo b m b.length : Nat) : Int)] := by
  unfold mins
  rw [List.range_succ, List.map_append]; rfl
theorem s_l0 (a b : List Int) (ha : Uu a) (hb : Uu b) (hla : a.length ≤ 16) (hlb : b.length ≤ 16) (hput : Ev fun k => spec_l07Put.f k (mins a b 64) (a.length : Int) = some (plist (mins a b 64) a.length 64)) : ∀ (d j : Nat), 64 - j = d → j ≤ 64 → Ev fun k => spec_NumsMin.l0 k a b (mins a b j) (j : Int) = some (plist (mins a b 64) a.length 64) := by
  intro d
  induction d with
  | zero =>
    intro j hd hj
    have e : j = 64 := by omega
    subst e
    refine hput.up fun k hk => ?_
    simp only [spec_NumsMin.l0]
    rw [if_neg (by omega), hk]; rfl
  | succ d ih =>
    intro j hd hj
    refine ((ih (j + 1) (by omega) (by omega)).and (Ev.from (P := fun k => 16 < k) 17 fun k hk => hk)).up fun k hk => ?_
    obtain ⟨hk, hk2⟩ := hk
    simp only [spec_NumsMin.l0]
    rw [if_pos (by omega), get_eq a ha hla j (by omega) k (by omega), get_eq b hb hlb j (by omega) k (by omega)]
    simp only [Option.bind_some]
    rw [if_pos (by rw [mins_len]; omega), ← mins_succ, w_inc j (by omega)]
    exact hk
theorem mins_pl (a b : List Int) (j : Nat) (hj : j < 64) : pl (mins a b 64) j = if valTo b j b.length < valTo a j a.length then valTo b j b.length else valTo a j a.length := by
  have e : rd (mins a b 64) (j : Int) = mn ((valTo a j a.length : Nat) : Int) ((valTo b j b.length : Nat) : Int) := by simp [rd, mins, hj]
  unfold pl
  rw [e]
  unfold mn
  split <;> rename_i h
  · rw [if_pos (by omega), Int.toNat_natCast]
  · rw [if_neg (by omega), Int.toNat_natCast]
theorem mins_u (a b : List Int) (hla : a.length ≤ 16) (hlb : b.length ≤ 16) : Uu (mins a b 64) := by
  intro x hx
  obtain ⟨j, _, rfl⟩ := List.mem_map.1 hx
  have h1 := valTo_lt a j a.length
  have h2 := valTo_lt b j b.length
  have p1 : 2 ^ a.length ≤ 65536 := Nat.le_trans (Nat.pow_le_pow_right (by omega) hla) (by decide)
  have p2 : 2 ^ b.length ≤ 65536 := Nat.le_trans (Nat.pow_le_pow_right (by omega) hlb) (by decide)
  unfold mn
  split <;> omega
theorem same_planes (a b : List Int) (ha : Uu a) (hb : Uu b) (n : Nat) (hla : a.length = n) (hlb : b.length = n) (hn : n ≤ 16) : plist (mins a b 64) n 64 = minL a b (lessTo a b n) n := by
  apply List.ext_getElem
  · rw [plist_len, minL_len]
  · intro k h1 h2
    rw [plist_len] at h1
    rw [plist_get]
    simp only [minL, List.getElem_map, List.getElem_range]
    congr 1
    apply Nat.eq_of_testBit_eq
    intro j
    by_cases hj : j < 64
    · rw [valTo_bit, decide_eq_true hj, Bool.true_and, sel_bit _ _ _ j (lessTo_lt a b hb n) hj, lessTo_bit a b ha hb j hj n, mins_pl a b j hj, hla, hlb]
      have ba := valTo_bit a j k n
      have bb := valTo_bit b j k n
      rw [decide_eq_true h1, Bool.true_and] at ba bb
      by_cases c1 : valTo a j n < valTo b j n
      · rw [if_neg (by omega), decide_eq_true c1, if_pos rfl, ba]
      · rw [decide_eq_false c1, if_neg (show ¬ (false = true) by decide)]
        by_cases c2 : valTo b j n < valTo a j n
        · rw [if_pos c2, bb]
        · rw [if_neg c2, ← bb]
          rw [show valTo a j n = valTo b j n by omega]
    · have p : 2 ^ 64 ≤ 2 ^ j := Nat.pow_le_pow_right (by omega) (by omega)
      have q1 := valTo_lt (mins a b 64) k 64
      have q2 := sel_lt (lessTo a b n) _ _ (rd_pl a ha k).2 (rd_pl b hb k).2
      have h64 : (2 : Nat) ^ 64 = 18446744073709551616 := by decide
      rw [Nat.testBit_lt_two_pow (Nat.lt_of_lt_of_le q1 p), Nat.testBit_lt_two_pow (Nat.lt_of_lt_of_le (by rw [h64]; exact q2) p)]
theorem sMin (a b : List Int) (ha : Uu a) (hb : Uu b) : Ev fun k => spec_NumsMin.f k a b = some (minR a b) := by
  by_cases c : (a.length : Int) = (b.length : Int)
  · by_cases c2 : (a.length : Int) ≤ 16
    · have hput := put_eq (mins a b 64) (mins_u a b (by omega) (by omega)) (by rw [mins_len]; omega) a.length (by omega)
      rw [mins_len] at hput
      refine (s_l0 a b ha hb (by omega) (by omega) hput 64 0 (by omega) (by omega)).imp fun k hk => ?_
      unfold spec_NumsMin.f spec_l07Twins.f minR
      rw [if_pos c]
      simp only [Option.bind_some]
      rw [decide_eq_true c2, if_pos rfl, if_pos ⟨by omega, by omega⟩, ← same_planes a b ha hb a.length rfl (by omega) (by omega)]
      exact hk
    · refine Ev.from 0 fun k _ => ?_
      unfold spec_NumsMin.f spec_l07Twins.f minR
      rw [if_pos c]
      simp only [Option.bind_some]
      rw [decide_eq_false c2, if_neg (by decide), if_neg (fun h => c2 (by omega))]
  · refine Ev.from 0 fun k _ => ?_
    unfold spec_NumsMin.f spec_l07Twins.f minR
    rw [if_neg c]
    simp only [Option.bind_some]
    rw [if_neg (by decide), if_neg (fun h => c (by omega))]
theorem law_at (a b : List Int) (ha : Uu a) (hb : Uu b) (h1 : a.length ≤ 1048576) (h2 : b.length ≤ 1048576) (k : Nat) (hk : a.length + b.length + 30 < k) (e1 : spec_NumsMin.f (k + 1) a b = some (minR a b)) : laws_FnExactNumsMin.f (k + 1) a b = some true := by
  have hR := minR_len a b
  unfold laws_FnExactNumsMin.f
  rw [if_neg (by omega), if_neg (by omega), toUint64S_eq a h1 _ (by omega)]
  simp only [Option.bind_some]
  rw [toUint64S_eq b h2 _ (by omega)]
  simp only [Option.bind_some]
  rw [e1, iMin a b ha hb _ (by omega)]
  simp only [Option.bind_some]
  rw [eqUint64S_eq _ (by omega) _ (by omega)]
  simp only [Option.bind_some, if_true]
  rw [eqUint64S_eq a h1 _ (by omega)]
  simp only [Option.bind_some, if_true]
  rw [eqUint64S_eq b h2 _ (by omega)]
  simp only [Option.bind_some, if_true]
  rw [markU_eq 1 a h1 (by omega) (by omega) _ (by omega)]
  simp only [Option.bind_some]
  rw [markU_eq _ b h2 (by omega) (by omega) _ (by omega)]
  simp only [Option.bind_some]
  rw [if_neg (by omega)]
  simp only [laws_FnExactNumsMin.j0]
  simp only [Bool.not_true, Bool.false_eq_true, if_false]
  rw [markU_eq 1 (minR a b) (by omega) (by omega) (by omega) _ (by omega)]
  simp only [Option.bind_some]
  rw [heldU_eq _ (by omega) _ (by omega)]
  simp only [Option.bind_some]
  rw [if_neg (by omega), if_pos trivial, toUint64S_eq a h1 _ (by omega)]
  simp only [Option.bind_some]
  rw [toUint64S_eq b h2 _ (by omega)]
  simp only [Option.bind_some]
  rw [iMin a b ha hb _ (by omega)]
  simp only [Option.bind_some]
  rw [eqUint64S_eq _ (by omega) _ (by omega)]
  simp only [Option.bind_some, if_true]
  rw [if_neg (by omega)]
theorem u_wf (l : List Int) (h : ∀ x ∈ l, (Lit.int .u64 x).wf = true) : Uu l := by
  intro x hx
  have := h x hx
  simp [Lit.wf, IntKind.wrap_u64] at this
  have h1 : IntKind.u64.min = 0 := by decide
  have h2 : IntKind.u64.max = 18446744073709551615 := by decide
  omega
theorem FnExactNumsMin : laws_FnExactNumsMin.Pure := by
  intro l0 l1 _ _ h0 _ _ h1
  have ha := u_wf l0 h0
  have hb := u_wf l1 h1
  by_cases c : (l0.length : Int) > 1048576
  · exact ⟨0, by unfold laws_FnExactNumsMin.f; rw [if_pos c]⟩
  · by_cases c2 : (l1.length : Int) > 1048576
    · exact ⟨0, by unfold laws_FnExactNumsMin.f; rw [if_neg c, if_pos c2]⟩
    · obtain ⟨K, h⟩ := sMin l0 l1 ha hb
      exact ⟨K + l0.length + l1.length + 31 + 1, law_at l0 l1 ha hb (by omega) (by omega) _ (by omega) (h _ (by omega))⟩

end Go.Proofs.Ytbiighdgnaicnaa.Pure

/- For every input of bytes the law FnZeroOne returns true: a net that sorts all lists of 0 and 1 sorts the drawn list; any other has a first counterexample. -/
import Derived.Test.YtekfpjblakindaaPFnZeroOnex10
import Derived.Test.YtekfpjblakindaaNets
namespace Go.Proofs.Ytekfpjblakindaa.Pure
open Go.RowKit Go.Proofs.Ytekfpjblakindaa.PFnZeroOne Go.Proofs.YtekfpjblakindaaW.PrintWords Go.Proofs.YtekfpjblakindaaW.PrintLast Go.Proofs.YtekfpjblakindaaW.PrintMore
set_option linter.unusedVariables false
set_option linter.unusedSimpArgs false

theorem leo_up {α : Type} (f : Nat → Option α) (h : ∀ k, LeO (f k) (f (k + 1))) (k : Nat) (r : α) (e : f k = some r) : ∀ d, f (k + d) = some r
  | 0 => e
  | d + 1 => h (k + d) r (leo_up f h k r e d)
theorem wr1 (i : Nat) (h : i ≤ 4000000) : wrap64 ((i : Int) + 1) = ((i + 1 : Nat) : Int) := by unfold wrap64; omega
theorem rd55 (l : List S55) (i : Nat) (h : i < l.length) : rd_T55 l (i : Int) = l[i] := by simp [rd_T55, h]
/-- Is it a net? -/
def netB (n : Int) (l : List S55) : Bool := decide (1 ≤ n ∧ n ≤ 64) && (decide (l.length ≤ 2100) && !(l.any (badW n)))
theorem netOk_l0 (n : Int) (l : List S55) (hl : l.length ≤ 1048576) : ∀ (d k i : Nat), i ≤ l.length → l.length - i = d → d < k → spec_NetOk.l0 k (i : Int) n l = some (!((l.drop i).any (badW n))) := by
  intro d
  induction d with
  | zero =>
    intro k i hi hd hk
    obtain ⟨k, rfl⟩ : ∃ m, k = m + 1 := ⟨k - 1, by omega⟩
    simp only [spec_NetOk.l0]
    rw [if_neg (by omega), List.drop_eq_nil_of_le (by omega)]; rfl
  | succ d ih =>
    intro k i hi hd hk
    obtain ⟨k, rfl⟩ : ∃ m, k = m + 1 := ⟨k - 1, by omega⟩
    have hlt : i < l.length := by omega
    simp only [spec_NetOk.l0]
    rw [if_pos (by omega), if_pos (by omega), rd55 l i hlt, wr1 i (by omega), ih k (i + 1) (by omega) (by omega) (by omega), List.drop_eq_getElem_cons hlt, List.any_cons]
    have e : badW n l[i] = (decide ((l[i]).f0 < 0) || (decide ((l[i]).f1 ≤ (l[i]).f0) || decide (n ≤ (l[i]).f1))) := rfl
    rw [e]
    by_cases c1 : (l[i]).f0 < 0
    · rw [if_pos c1, decide_eq_true c1]; rfl
    · rw [if_neg c1, decide_eq_false c1]
      by_cases c2 : (l[i]).f1 ≤ (l[i]).f0
      · rw [if_pos c2, decide_eq_true c2]; rfl
      · rw [if_neg c2, decide_eq_false c2]
        by_cases c3 : (l[i]).f1 ≥ n
        · rw [if_pos c3, decide_eq_true (show n ≤ (l[i]).f1 from c3)]; rfl
        · rw [if_neg c3, decide_eq_false (show ¬ n ≤ (l[i]).f1 from c3)]; rfl
theorem netOk_eq (n : Int) (l : List S55) (hl : l.length ≤ 1048576) (k : Nat) (hk : l.length + 1 < k) : spec_NetOk.f k n l = some (netB n l) := by
  obtain ⟨k, rfl⟩ : ∃ m, k = m + 1 := ⟨k - 1, by omega⟩
  unfold spec_NetOk.f netB
  by_cases c1 : n < 1
  · rw [if_pos c1, decide_eq_false (by omega)]
    simp [spec_NetOk.j0]
  · rw [if_neg c1]
    by_cases c2 : n > 64
    · rw [if_pos c2, decide_eq_false (show ¬ (1 ≤ n ∧ n ≤ 64) from by omega)]
      simp [spec_NetOk.j0]
    · rw [if_neg c2, decide_eq_true (show 1 ≤ n ∧ n ≤ 64 from by omega)]
      by_cases c3 : (l.length : Int) > 2100
      · rw [decide_eq_true c3, decide_eq_false (show ¬ l.length ≤ 2100 from by omega)]
        simp [spec_NetOk.j0]
      · rw [decide_eq_false c3, decide_eq_true (show l.length ≤ 2100 from by omega)]
        simp only [spec_NetOk.j0]
        have := netOk_l0 n l hl l.length k 0 (by omega) (by omega) (by omega)
        rw [show ((0 : Nat) : Int) = 0 from rfl] at this
        rw [if_neg (by decide), this]
        simp
theorem isNet_eq (n : Int) (l : List S55) : impl_isNet.f n l = some (netB n l) := rfl
def swapT (x : S55) (l : List Int) : List Int := if rd l x.f1 < rd l x.f0 then (l.set x.f0.toNat (rd l x.f1)).set x.f1.toNat (rd l x.f0) else l
def runT : List S55 → List Int → List Int
  | [], l => l
  | x :: ws, l => runT ws (swapT x l)
theorem swapT_len (x : S55) (l : List Int) : (swapT x l).length = l.length := by unfold swapT; split <;> simp
theorem runT_len : ∀ (ws : List S55) (l : List Int), (runT ws l).length = l.length
  | [], l => rfl
  | x :: ws, l => by unfold runT; rw [runT_len ws, swapT_len]
def inW (n : Nat) (ws : List S55) : Prop := ∀ x, x ∈ ws → 0 ≤ x.f0 ∧ x.f0 < x.f1 ∧ x.f1 < (n : Int)
theorem netB_in (n : Int) (ws : List S55) (h : netB n ws = true) : 1 ≤ n ∧ n ≤ 64 ∧ ws.length ≤ 2100 ∧ inW n.toNat ws := by
  simp only [netB, Bool.and_eq_true, decide_eq_true_eq, Bool.not_eq_true', List.any_eq_false] at h
  obtain ⟨⟨h1, h2⟩, h3, h4⟩ := h
  refine ⟨h1, h2, h3, fun x hx => ?_⟩
  have := h4 x hx
  simp [badW] at this
  omega
theorem runL_eq : ∀ (ws : List S55) (l : List Int), inW l.length ws → runL ws l = some (runT ws l)
  | [], l, _ => rfl
  | x :: ws, l, h => by
    have hx := h x (by simp)
    have e : swapL x l = some (swapT x l) := by
      unfold swapL swapT
      rw [if_pos ⟨by omega, by omega, by omega, by omega⟩]
      split <;> rfl
    unfold runL runT
    rw [e]
    simp only [Option.bind_some]
    exact runL_eq ws _ (by rw [swapT_len]; exact fun y hy => h y (by simp [hy]))
theorem set_self (l : List Int) (i : Nat) (hi : i < l.length) : l.set i (rd l (i : Int)) = l := by
  simp [rd, hi]
theorem swap_mm (x : S55) (l : List Int) (h0 : 0 ≤ x.f0) (h1 : x.f0 < x.f1) (h2 : x.f1 < (l.length : Int)) : (l.set x.f0.toNat (mn (rd l x.f0) (rd l x.f1))).set x.f1.toNat (mx (rd l x.f0) (rd l x.f1)) = swapT x l := by
  unfold swapT mn mx
  by_cases c : rd l x.f1 < rd l x.f0
  · rw [if_pos c, if_pos c, if_neg (by omega)]
  · rw [if_neg c, if_neg c]
    obtain ⟨i, hi⟩ := Int.eq_ofNat_of_zero_le h0
    obtain ⟨j, hj⟩ := Int.eq_ofNat_of_zero_le (show 0 ≤ x.f1 by omega)
    rw [hi, hj] at c ⊢
    simp only [Int.toNat_natCast]
    rw [set_self l i (by omega)]
    have : (if rd l (i : Int) < rd l (j : Int) then rd l (j : Int) else rd l (i : Int)) = rd l (j : Int) := by
      split
      · rfl
      · omega
    rw [this]
    exact set_self l j (by omega)
theorem specRun_l0 (n : Int) (ws : List S55) (hw : ws.length ≤ 1048576) : ∀ (d k i : Nat) (l : List Int), inW l.length ws → i ≤ ws.length → ws.length - i = d → d < k → spec_l08Run.l0 k l (i : Int) n ws = some (runT (ws.drop i) l) := by
  intro d
  induction d with
  | zero =>
    intro k i l hin hi hd hk
    obtain ⟨k, rfl⟩ : ∃ m, k = m + 1 := ⟨k - 1, by omega⟩
    simp only [spec_l08Run.l0]
    rw [if_neg (by omega), List.drop_eq_nil_of_le (by omega)]; rfl
  | succ d ih =>
    intro k i l hin hi hd hk
    obtain ⟨k, rfl⟩ : ∃ m, k = m + 1 := ⟨k - 1, by omega⟩
    have hlt : i < ws.length := by omega
    have hx := hin ws[i] (by simp)
    simp only [spec_l08Run.l0]
    rw [rd55 ws i hlt, if_pos (by omega), if_pos (by omega), if_pos (by omega), if_pos (by omega), if_pos (by omega), if_pos (by omega), swap_mm _ _ hx.1 hx.2.1 hx.2.2, wr1 i (by omega), ih k (i + 1) _ (by rw [swapT_len]; exact hin) (by omega) (by omega) (by omega), List.drop_eq_getElem_cons hlt]
    rfl
theorem specRun_eq (n : Int) (ws : List S55) (l : List Int) (hw : ws.length ≤ 2100) (hl : l.length ≤ 1048576) (hin : inW l.length ws) (k : Nat) (hk : ws.length < k) : spec_l08Run.f k n ws l = some (runT ws l) := by
  unfold spec_l08Run.f
  simp only [Option.bind_some]
  rw [if_pos (by simp; omega)]
  have := specRun_l0 n ws (by omega) ws.length k 0 l hin (by omega) (by omega) hk
  simpa using this
theorem implRun_eq (n : Int) (ws : List S55) (l : List Int) (hl : l.length ≤ 1048576) (hin : inW l.length ws) : impl_netRun.f n ws l = some (runT ws l) := by
  unfold impl_netRun.f
  rw [if_pos (by omega)]
  exact runL_eq ws l hin
theorem and1 (y : Nat) (h : y < 4294967296) : Go.bits .and .i64 (y : Int) 1 = ((y % 2 : Nat) : Int) := by
  have h1 : (BitVec.ofInt 64 (y : Int)).toNat = y := by
    rw [BitVec.ofInt_natCast, BitVec.toNat_ofNat]; exact Nat.mod_eq_of_lt (by omega)
  have h2 : (BitVec.ofInt 64 (1 : Int)).toNat = 1 := by decide
  show IntKind.i64.wrap ((BitVec.ofInt 64 (y : Int) &&& BitVec.ofInt 64 (1 : Int)).toNat : Int) = _
  rw [BitVec.toNat_and, h1, h2, Nat.and_one_is_mod, IntKind.wrap_i64]
  omega
/-- The lane's bit of a number's list. -/
def bitsL (n x : Nat) : List Int := (List.range n).map fun (i : Nat) => ((x / 2 ^ (n - 1 - i) % 2 : Nat) : Int)
theorem bitsL_len (n x : Nat) : (bitsL n x).length = n := by simp [bitsL]
theorem bitsL_step (n x : Nat) (l : List Int) (i : Nat) (hi : i < n) (hl : l.length = n) (h : l.take i = (bitsL n x).take i) : (l.set i ((x / 2 ^ (n - 1 - i) % 2 : Nat) : Int)).take (i + 1) = (bitsL n x).take (i + 1) := by
  rw [List.take_add_one, List.take_add_one, List.take_set_of_le (Nat.le_refl _), h]
  simp [hi, hl, bitsL]
theorem bitsL_down (n x : Nat) (l : List Int) (i : Nat) (hi : i < n) (hl : l.length = n) (h : l.drop (i + 1) = (bitsL n x).drop (i + 1)) : (l.set i ((x / 2 ^ (n - 1 - i) % 2 : Nat) : Int)).drop i = (bitsL n x).drop i := by
  rw [List.drop_eq_getElem_cons (l := l.set i _) (i := i) (by simp; omega), List.drop_eq_getElem_cons (l := bitsL n x) (i := i) (by rw [bitsL_len]; omega), List.drop_set_of_lt (by omega), h]
  simp [bitsL]
/-- Every neighbour pair up to i is in order. -/
def okTo (l : List Int) : Nat → Bool
  | 0 => true
  | i + 1 => !(decide (rd l ((i + 1 : Nat) : Int) < rd l (i : Int))) && okTo l i
theorem okTo_iff (l : List Int) : ∀ i, okTo l i = true ↔ ∀ j, j < i → ¬ rd l ((j + 1 : Nat) : Int) < rd l (j : Int)
  | 0 => by simp [okTo]
  | i + 1 => by
    unfold okTo
    rw [Bool.and_eq_true, okTo_iff l i]
    simp only [Bool.not_eq_true', decide_eq_false_iff_not]
    constructor
    · rintro ⟨h1, h2⟩ j hj
      by_cases e : j = i
      · subst e; exact h1
      · exact h2 j (by omega)
    · intro h
      exact ⟨h i (by omega), fun j hj => h j (by omega)⟩
theorem less_eq (a b : Int) : cmp_Less_int.f a b = some (decide (a < b)) := by simp [cmp_Less_int.f, cmp_isNaN_int.f]
theorem isSorted_l0 (l : List Int) (hl : l.length ≤ 64) : ∀ (i k : Nat), i < l.length → i < k → slices_IsSorted_int_int.l0 k l (i : Int) = some (okTo l i)
  | 0, k, hi, hk => by
    obtain ⟨k, rfl⟩ : ∃ m, k = m + 1 := ⟨k - 1, by omega⟩
    simp [slices_IsSorted_int_int.l0, okTo]
  | i + 1, k, hi, hk => by
    obtain ⟨k, rfl⟩ : ∃ m, k = m + 1 := ⟨k - 1, by omega⟩
    simp only [slices_IsSorted_int_int.l0]
    have e : wrap64 (((i + 1 : Nat) : Int) - 1) = (i : Int) := by unfold wrap64; omega
    rw [e, if_pos (by omega), if_pos (by omega), if_pos (by omega), if_pos (by omega), if_pos (by omega)]
    rw [less_eq]
    simp only [Option.bind_some]
    unfold okTo
    by_cases c : rd l ((i + 1 : Nat) : Int) < rd l (i : Int)
    · rw [decide_eq_true c, if_pos rfl]; rfl
    · rw [decide_eq_false c, if_neg (by decide), isSorted_l0 l hl i k (by omega) (by omega)]; rfl
theorem isSorted_eq (l : List Int) (hl : l.length ≤ 64) (h1 : 1 ≤ l.length) (k : Nat) (hk : l.length ≤ k) : slices_IsSorted_int_int.f k l = some (okTo l (l.length - 1)) := by
  unfold slices_IsSorted_int_int.f
  rw [show wrap64 ((l.length : Int) - 1) = ((l.length - 1 : Nat) : Int) from by unfold wrap64; omega]
  exact isSorted_l0 l hl _ k (by omega) (by omega)
/-- The first of d lists from x on that the net does not sort. -/
def fs (n : Nat) (ws : List S55) : Nat → Nat → List Int
  | 0, _ => []
  | d + 1, x => if okTo (runT ws (bitsL n x)) (n - 1) = true then fs n ws d (x + 1) else bitsL n x
theorem fs_len (n : Nat) (ws : List S55) : ∀ d x, (fs n ws d x).length ≤ n
  | 0, _ => by simp [fs]
  | d + 1, x => by
    unfold fs
    split
    · exact fs_len n ws d (x + 1)
    · rw [bitsL_len]; omega
def Ev (P : Nat → Prop) : Prop := ∃ K, ∀ k, K ≤ k → P k
theorem Ev.up {P Q : Nat → Prop} (h : Ev P) (f : ∀ k, P k → Q (k + 1)) : Ev Q := by
  obtain ⟨K, h⟩ := h
  exact ⟨K + 1, fun k hk => by
    obtain ⟨m, rfl⟩ : ∃ m, k = m + 1 := ⟨k - 1, by omega⟩
    exact f m (h m (by omega))⟩
theorem Ev.and {P Q : Nat → Prop} (h : Ev P) (h' : Ev Q) : Ev fun k => P k ∧ Q k := by
  obtain ⟨K, h⟩ := h
  obtain ⟨K', h'⟩ := h'
  exact ⟨K + K', fun k hk => ⟨h k (by omega), h' k (by omega)⟩⟩
theorem Ev.imp {P Q : Nat → Prop} (h : Ev P) (f : ∀ k, P k → Q k) : Ev Q := by
  obtain ⟨K, h⟩ := h
  exact ⟨K, fun k hk => f k (h k hk)⟩
theorem Ev.from {P : Nat → Prop} (K : Nat) (h : ∀ k, K ≤ k → P k) : Ev P := ⟨K, h⟩
theorem shr_nat (x y : Nat) (h : y ≤ 64) : shr .i64 (x : Int) (y : Int) = ((x / 2 ^ y : Nat) : Int) := by
  unfold shr
  rw [Int.toNat_natCast, show min y IntKind.i64.bits = y from Nat.min_eq_left h]
  rw [Int.natCast_ediv, Int.natCast_pow]; rfl
theorem i_l1 (n : Nat) (hn : n ≤ 12) (ws : List S55) (pw : Int) (x : Nat) (hx : x < 4096) (r : List Int)
    (tail : Ev fun k => ((impl_netRun.f (n : Int) ws (bitsL n x)).bind fun t174 => ((slices_IsSorted_int_int.f k t174).bind fun t177 => (if t177 = true then (impl_netFault.l0 k (bitsL n x) pw (wrap64 ((x : Int) + 1)) (n : Int) ws) else (some (bitsL n x))))) = some r) :
    ∀ (d i : Nat) (l : List Int), l.length = n → i ≤ n → n - i = d → l.take i = (bitsL n x).take i → Ev fun k => impl_netFault.l1 k l (x : Int) pw (x : Int) (n : Int) (i : Int) (n : Int) ws = some r := by
  intro d
  induction d with
  | zero =>
    intro i l hl hi hd h
    rw [List.take_of_length_le (by omega), List.take_of_length_le (by rw [bitsL_len]; omega)] at h
    subst h
    refine tail.up fun k hk => ?_
    simp only [impl_netFault.l1]
    rw [if_neg (by omega)]
    exact hk
  | succ d ih =>
    intro i l hl hi hd h
    have hlt : i < n := by omega
    refine (ih (i + 1) (l.set i ((x / 2 ^ (n - 1 - i) % 2 : Nat) : Int)) (by simpa using hl) (by omega) (by omega) (bitsL_step n x l i hlt hl h)).up fun k hk => ?_
    simp only [impl_netFault.l1]
    have e1 : wrap64 (wrap64 ((n : Int) - 1) - (i : Int)) = ((n - 1 - i : Nat) : Int) := by unfold wrap64; omega
    have hle : x / 2 ^ (n - 1 - i) < 4294967296 := Nat.lt_of_le_of_lt (Nat.div_le_self _ _) (by omega)
    rw [if_pos (by omega), e1, if_pos (by omega), if_pos (by omega), if_pos (by omega), shr_nat x (n - 1 - i) (by omega), and1 _ hle, Int.toNat_natCast, wr1 i (by omega)]
    exact hk
theorem i_l0 (n : Nat) (h1 : 1 ≤ n) (hn : n ≤ 12) (ws : List S55) (hin : inW n ws) : ∀ (d x : Nat) (l : List Int), l.length = n → x + d = 2 ^ n → Ev fun k => impl_netFault.l0 k l ((2 ^ n : Nat) : Int) (x : Int) (n : Int) ws = some (fs n ws d x) := by
  have hp : 2 ^ n ≤ 4096 := Nat.le_trans (Nat.pow_le_pow_right (by omega) hn) (by decide)
  intro d
  induction d with
  | zero =>
    intro x l hl hx
    refine Ev.from 1 fun k hk => ?_
    obtain ⟨k, rfl⟩ : ∃ m, k = m + 1 := ⟨k - 1, by omega⟩
    simp only [impl_netFault.l0]
    rw [if_neg (by omega)]; rfl
  | succ d ih =>
    intro x l hl hx
    refine (i_l1 n hn ws ((2 ^ n : Nat) : Int) x (by omega) (fs n ws (d + 1) x) ?_ n 0 l hl (by omega) (by omega) rfl).up fun k hk => ?_
    · refine ((ih (x + 1) (bitsL n x) (bitsL_len n x) (by omega)).and (Ev.from (P := fun k => n ≤ k) n fun k hk => hk)).imp fun k hk => ?_
      obtain ⟨hk1, hk2⟩ := hk
      have hL : (bitsL n x).length = n := bitsL_len n x
      have hR : (runT ws (bitsL n x)).length = n := by rw [runT_len, hL]
      rw [implRun_eq _ ws _ (by omega) (by rw [hL]; exact hin)]
      simp only [Option.bind_some]
      rw [isSorted_eq _ (by omega) (by omega) k (by omega), hR]
      simp only [Option.bind_some]
      unfold fs
      split
      · rw [wr1 x (by omega)]; exact hk1
      · rfl
    · simp only [impl_netFault.l0]
      rw [if_pos (by omega), hl]
      exact hk
theorem pow_l0 : ∀ (n k : Nat) (r : Nat), n ≤ 12 → n < k → r * 2 ^ n ≤ 4096 → spec_l02Pow.l0 k (n : Int) (r : Int) = some ((r * 2 ^ n : Nat) : Int)
  | 0, k, r, _, hk, _ => by
    obtain ⟨k, rfl⟩ : ∃ m, k = m + 1 := ⟨k - 1, by omega⟩
    simp [spec_l02Pow.l0]
  | n + 1, k, r, hn, hk, h => by
    obtain ⟨k, rfl⟩ : ∃ m, k = m + 1 := ⟨k - 1, by omega⟩
    have e : r * 2 ^ (n + 1) = 2 * r * 2 ^ n := by rw [Nat.pow_succ]; rw [Nat.mul_comm 2 r, Nat.mul_assoc, Nat.mul_comm 2 (2 ^ n)]
    have hle : 2 * r ≤ 4096 := Nat.le_trans (Nat.le_mul_of_pos_right _ (Nat.two_pow_pos n)) (by rw [← e]; exact h)
    simp only [spec_l02Pow.l0]
    rw [if_pos (by omega), show wrap64 (((n + 1 : Nat) : Int) - 1) = (n : Int) from by unfold wrap64; omega, show wrap64 (2 * (r : Int)) = ((2 * r : Nat) : Int) from by unfold wrap64; omega, e]
    exact pow_l0 n k (2 * r) (by omega) (by omega) (by rw [← e]; exact h)
theorem pow_eq (n : Nat) (hn : n ≤ 12) (k : Nat) (hk : n < k) : spec_l02Pow.f k (n : Int) = some ((2 ^ n : Nat) : Int) := by
  have hp : 2 ^ n ≤ 4096 := Nat.le_trans (Nat.pow_le_pow_right (by omega) hn) (by decide)
  unfold spec_l02Pow.f
  have := pow_l0 n k 1 hn hk (by omega)
  simpa using this
theorem s_l2 (n : Nat) (h1 : 1 ≤ n) (hn : n ≤ 12) (ws : List S55) (x : Nat) (hx : x < 4096) (L t r : List Int) (ht : t.length = n) (tail : Ev fun k => spec_NetFault.l0 k ((x + 1 : Nat) : Int) (n : Int) ws = some r) :
    ∀ (d i : Nat), 1 ≤ i → i ≤ n → n - i = d → okTo t (i - 1) = true → Ev fun k => spec_NetFault.l2 k (x : Int) L t (i : Int) (n : Int) ws = some (if okTo t (n - 1) = true then r else L) := by
  intro d
  induction d with
  | zero =>
    intro i hi1 hi hd h
    have e : i = n := by omega
    subst e
    rw [if_pos h]
    refine tail.up fun k hk => ?_
    simp only [spec_NetFault.l2]
    rw [if_neg (by omega), wr1 x (by omega)]
    exact hk
  | succ d ih =>
    intro i hi1 hi hd h
    obtain ⟨i, rfl⟩ : ∃ m, i = m + 1 := ⟨i - 1, by omega⟩
    have e1 : wrap64 (((i + 1 : Nat) : Int) - 1) = (i : Int) := by unfold wrap64; omega
    by_cases c : rd t ((i + 1 : Nat) : Int) < rd t (i : Int)
    · have hno : ¬ okTo t (n - 1) = true := fun hh => (okTo_iff t (n - 1)).1 hh i (by omega) c
      rw [if_neg hno]
      refine Ev.from 1 fun k hk => ?_
      obtain ⟨k, rfl⟩ : ∃ m, k = m + 1 := ⟨k - 1, by omega⟩
      simp only [spec_NetFault.l2]
      rw [e1, if_pos (by omega), if_pos (by omega), if_pos (by omega), if_pos (by omega), if_pos (by omega), if_pos c]
    · refine (ih (i + 1 + 1) (by omega) (by omega) (by omega) ?_).up fun k hk => ?_
      · show okTo t (i + 1) = true
        unfold okTo
        rw [decide_eq_false c]
        exact h
      · simp only [spec_NetFault.l2]
        rw [e1, if_pos (by omega), if_pos (by omega), if_pos (by omega), if_pos (by omega), if_pos (by omega), if_neg c, wr1 (i + 1) (by omega)]
        exact hk
theorem s_l1 (n : Nat) (hn : n ≤ 12) (ws : List S55) (x : Nat) (hx : x < 4096) (r : List Int)
    (tail : Ev fun k => ((spec_l08Run.f k (n : Int) ws (bitsL n x)).bind fun t => (spec_NetFault.l2 k (x : Int) (bitsL n x) t 1 (n : Int) ws)) = some r) :
    ∀ (j : Nat) (l : List Int), l.length = n → j ≤ n → l.drop j = (bitsL n x).drop j → Ev fun k => spec_NetFault.l1 k (x : Int) l ((x / 2 ^ (n - j) : Nat) : Int) ((j : Int) - 1) (n : Int) ws = some r := by
  intro j
  induction j with
  | zero =>
    intro l hl hj h
    rw [List.drop_zero, List.drop_zero] at h
    subst h
    refine tail.up fun k hk => ?_
    simp only [spec_NetFault.l1]
    rw [if_neg (by omega)]
    exact hk
  | succ j ih =>
    intro l hl hj h
    have e0 : n - 1 - j = n - (j + 1) := by omega
    have hs := bitsL_down n x l j (by omega) hl h
    rw [e0] at hs
    refine (ih (l.set j ((x / 2 ^ (n - (j + 1)) % 2 : Nat) : Int)) (by simpa using hl) (by omega) hs).up fun k hk => ?_
    simp only [spec_NetFault.l1]
    have hle : x / 2 ^ (n - (j + 1)) ≤ x := Nat.div_le_self _ _
    have e1 : ((j + 1 : Nat) : Int) - 1 = (j : Int) := by omega
    have e2 : x / 2 ^ (n - j) = x / 2 ^ (n - (j + 1)) / 2 := by rw [show n - j = (n - (j + 1)) + 1 from by omega, Nat.pow_succ, Nat.div_div_eq_div_mul]
    rw [e1, if_pos (by omega), if_pos (by omega), if_pos (by omega), Int.toNat_natCast]
    rw [e2] at hk
    generalize x / 2 ^ (n - (j + 1)) = y at hk hle ⊢
    rw [show Int.tmod (y : Int) 2 = ((y % 2 : Nat) : Int) from rfl, show Int.tdiv (y : Int) 2 = ((y / 2 : Nat) : Int) from rfl, show wrap64 ((y / 2 : Nat) : Int) = ((y / 2 : Nat) : Int) from by unfold wrap64; omega, show wrap64 ((j : Int) - 1) = (j : Int) - 1 from by unfold wrap64; omega]
    exact hk
theorem s_l0 (n : Nat) (h1 : 1 ≤ n) (hn : n ≤ 12) (ws : List S55) (hw : ws.length ≤ 2100) (hin : inW n ws) : ∀ (d x : Nat), x + d = 2 ^ n → Ev fun k => spec_NetFault.l0 k (x : Int) (n : Int) ws = some (fs n ws d x) := by
  have hp : 2 ^ n ≤ 4096 := Nat.le_trans (Nat.pow_le_pow_right (by omega) hn) (by decide)
  intro d
  induction d with
  | zero =>
    intro x hx
    refine Ev.from (n + 2) fun k hk => ?_
    obtain ⟨k, rfl⟩ : ∃ m, k = m + 1 := ⟨k - 1, by omega⟩
    simp only [spec_NetFault.l0]
    rw [pow_eq n hn k (by omega)]
    simp only [Option.bind_some]
    rw [if_neg (by omega)]; rfl
  | succ d ih =>
    intro x hx
    have hL : (bitsL n x).length = n := bitsL_len n x
    have hR : (runT ws (bitsL n x)).length = n := by rw [runT_len, hL]
    have key := s_l2 n h1 hn ws x (by omega) (bitsL n x) (runT ws (bitsL n x)) (fs n ws d (x + 1)) hR (ih (x + 1) (by omega)) (n - 1) 1 (by omega) h1 rfl rfl
    have t2 := (key.and (Ev.from (P := fun k => ws.length < k) (ws.length + 1) fun k hk => hk)).imp (Q := fun k => ((spec_l08Run.f k (n : Int) ws (bitsL n x)).bind fun t => (spec_NetFault.l2 k (x : Int) (bitsL n x) t 1 (n : Int) ws)) = some (fs n ws (d + 1) x)) fun k hk => by
      rw [specRun_eq (n : Int) ws _ hw (by omega) (by rw [hL]; exact hin) k hk.2]
      simp only [Option.bind_some]
      exact hk.1
    have l1 := s_l1 n hn ws x (by omega) _ t2 n (List.replicate n 0) (by simp) (Nat.le_refl _) (by rw [List.drop_eq_nil_of_le (by simp), List.drop_eq_nil_of_le (by rw [hL]; omega)])
    refine (l1.and (Ev.from (P := fun k => n < k) (n + 1) fun k hk => hk)).up fun k hk => ?_
    obtain ⟨hk, hk2⟩ := hk
    simp only [spec_NetFault.l0]
    rw [pow_eq n hn k hk2]
    simp only [Option.bind_some]
    rw [if_pos (by omega), if_pos (by omega), if_pos (by omega), Int.toNat_natCast, show wrap64 ((n : Int) - 1) = (n : Int) - 1 from by unfold wrap64; omega]
    rw [Nat.sub_self, Nat.pow_zero, Nat.div_one] at hk
    exact hk
/-- What NetFault answers. -/
def faultR (n : Int) (ws : List S55) : List Int := if netB n ws = true ∧ n ≤ 12 then fs n.toNat ws (2 ^ n.toNat) 0 else []
theorem faultR_len (n : Int) (ws : List S55) : (faultR n ws).length ≤ 12 := by
  unfold faultR
  split
  · rename_i h
    exact Nat.le_trans (fs_len _ _ _ _) (by omega)
  · simp
theorem iFault' (n : Int) (ws : List S55) (h : netB n ws = true) (h12 : n ≤ 12) : Ev fun k => impl_netFault.f k n ws = some (faultR n ws) := by
  obtain ⟨h1, h2, h3, h4⟩ := netB_in n ws h
  obtain ⟨n, rfl⟩ := Int.eq_ofNat_of_zero_le (show 0 ≤ n by omega)
  rw [Int.toNat_natCast] at h4
  refine (i_l0 n (by omega) (by omega) ws h4 (2 ^ n) 0 (List.replicate n 0) (by simp) (by omega)).imp fun k hk => ?_
  unfold impl_netFault.f faultR
  have e : shl .i64 1 (n : Int) = ((2 ^ n : Nat) : Int) := by
    have hp : 2 ^ n ≤ 4096 := Nat.le_trans (Nat.pow_le_pow_right (by omega) (show n ≤ 12 by omega)) (by decide)
    unfold shl
    rw [Int.toNat_natCast, show min n IntKind.i64.bits = n from Nat.min_eq_left (show n ≤ 64 by omega), Int.one_mul, IntKind.wrap_i64]
    have : ((2 : Int) ^ n) = ((2 ^ n : Nat) : Int) := by rw [Int.natCast_pow]; rfl
    rw [this]
    obtain ⟨z, hz⟩ : ∃ z, z = 2 ^ n := ⟨_, rfl⟩
    rw [← hz] at hp ⊢
    omega
  rw [if_pos (by omega), if_pos (by omega), if_pos ⟨h, h12⟩, Int.toNat_natCast, e]
  exact hk
theorem sFault (n : Int) (ws : List S55) (hw : ws.length ≤ 1048576) : Ev fun k => spec_NetFault.f k n ws = some (faultR n ws) := by
  by_cases c : netB n ws = true
  · by_cases c2 : n ≤ 12
    · obtain ⟨h1, h2, h3, h4⟩ := netB_in n ws c
      obtain ⟨n, rfl⟩ := Int.eq_ofNat_of_zero_le (show 0 ≤ n by omega)
      rw [Int.toNat_natCast] at h4
      refine ((s_l0 n (by omega) (by omega) ws h3 h4 (2 ^ n) 0 (by omega)).and (Ev.from (P := fun k => ws.length + 1 < k) (ws.length + 2) fun k hk => hk)).up fun k hk => ?_
      unfold spec_NetFault.f faultR
      rw [netOk_eq _ ws hw _ (by omega)]
      simp only [Option.bind_some]
      rw [if_pos c, if_pos ⟨c, c2⟩, decide_eq_false (by omega), Int.toNat_natCast]
      simp only [spec_NetFault.j0]
      exact hk.1
    · refine Ev.from (ws.length + 2) fun k hk => ?_
      obtain ⟨k, rfl⟩ : ∃ m, k = m + 1 := ⟨k - 1, by omega⟩
      unfold spec_NetFault.f faultR
      rw [netOk_eq _ ws hw _ (by omega)]
      simp only [Option.bind_some]
      rw [if_pos c, if_neg (fun h => c2 h.2), decide_eq_true (by omega)]
      simp [spec_NetFault.j0]
  · refine Ev.from (ws.length + 2) fun k hk => ?_
    obtain ⟨k, rfl⟩ : ∃ m, k = m + 1 := ⟨k - 1, by omega⟩
    unfold spec_NetFault.f faultR
    rw [netOk_eq _ ws hw _ (by omega)]
    simp only [Option.bind_some]
    rw [if_neg c, if_neg (fun h => c h.1)]
    simp [spec_NetFault.j0]
theorem iFault (n : Int) (ws : List S55) : Ev fun k => impl_NetFault.f k n ws = some (faultR n ws) := by
  by_cases c : netB n ws = true
  · by_cases c2 : n ≤ 12
    · refine (iFault' n ws c c2).imp fun k hk => ?_
      unfold impl_NetFault.f
      rw [isNet_eq]
      simp only [Option.bind_some]
      rw [if_pos c, if_neg (by omega), hk]; rfl
    · refine Ev.from 0 fun k _ => ?_
      unfold impl_NetFault.f faultR
      rw [isNet_eq]
      simp only [Option.bind_some]
      rw [if_pos c, if_pos (by omega), if_neg (fun h => c2 h.2)]
  · refine Ev.from 0 fun k _ => ?_
    unfold impl_NetFault.f faultR
    rw [isNet_eq]
    simp only [Option.bind_some]
    rw [if_neg c, if_neg (fun h => c h.1)]
def sortsR (n : Int) (ws : List S55) : Bool := netB n ws && (decide (n ≤ 12) && decide (faultR n ws = []))
theorem iSorts (n : Int) (ws : List S55) : Ev fun k => impl_NetSorts.f k n ws = some (sortsR n ws) := by
  by_cases c : netB n ws = true
  · by_cases c2 : n ≤ 12
    · refine (iFault' n ws c c2).imp fun k hk => ?_
      unfold impl_NetSorts.f sortsR
      rw [isNet_eq]
      simp only [Option.bind_some]
      rw [if_pos c, if_pos c2, hk, c, decide_eq_true c2]
      simp
    · refine Ev.from 0 fun k _ => ?_
      unfold impl_NetSorts.f sortsR
      rw [isNet_eq]
      simp only [Option.bind_some]
      rw [if_pos c, if_neg c2, decide_eq_false c2]
      simp
  · refine Ev.from 0 fun k _ => ?_
    unfold impl_NetSorts.f sortsR
    rw [isNet_eq]
    simp only [Option.bind_some]
    rw [if_neg c, Bool.eq_false_iff.2 c]
    rfl
theorem sSorts (n : Int) (ws : List S55) (hw : ws.length ≤ 1048576) : Ev fun k => spec_NetSorts.f k n ws = some (sortsR n ws) := by
  refine ((sFault n ws hw).and (Ev.from (P := fun k => ws.length + 1 < k) (ws.length + 2) fun k hk => hk)).imp fun k hk => ?_
  obtain ⟨hk, hk2⟩ := hk
  unfold spec_NetSorts.f sortsR
  rw [netOk_eq n ws hw k hk2]
  simp only [Option.bind_some]
  by_cases c : netB n ws = true
  · by_cases c2 : n ≤ 12
    · rw [if_pos c, if_pos c2, hk, c, decide_eq_true c2]
      simp only [Option.bind_some, Bool.true_and]
      congr 1
      cases faultR n ws with
      | nil => rfl
      | cons a l =>
        rw [decide_eq_false (by simp)]
        exact beq_eq_false_iff_ne.2 (by simp; omega)
    · rw [if_pos c, if_neg c2, decide_eq_false c2]
      simp
  · rw [if_neg c, Bool.eq_false_iff.2 c]
    rfl
/-! nets over lists of numbers, and the 0-1 principle -/
def ltI (a b : Int) : Bool := decide (a < b)
theorem ltI_ord : NetMath.Ord ltI where
  irrefl x := by simp [ltI]
  ntrans x y z h1 h2 := by simp [ltI] at *; omega
  asymm x y h := by simp [ltI] at *; omega
def natW (ws : List S55) : List (Nat × Nat) := ws.map fun x => (x.f0.toNat, x.f1.toNat)
theorem rdD (l : List Int) (i : Nat) : rd l (i : Int) = l.getD i 0 := by simp [rd]
theorem swapT_swp (x : S55) (l : List Int) (h0 : 0 ≤ x.f0) (h1 : 0 ≤ x.f1) : swapT x l = RankMath.swp ltI 0 (x.f0.toNat, x.f1.toNat) l := by
  obtain ⟨i, hi⟩ := Int.eq_ofNat_of_zero_le h0
  obtain ⟨j, hj⟩ := Int.eq_ofNat_of_zero_le h1
  unfold swapT RankMath.swp ltI
  rw [hi, hj, rdD, rdD]
  simp only [Int.toNat_natCast, decide_eq_true_eq]
theorem runT_runs (n : Nat) : ∀ (ws : List S55) (l : List Int), inW n ws → runT ws l = RankMath.runs ltI 0 (natW ws) l
  | [], l, _ => rfl
  | x :: ws, l, h => by
    have hx := h x (by simp)
    show runT ws (swapT x l) = RankMath.runs ltI 0 (natW ws) (RankMath.swp ltI 0 (x.f0.toNat, x.f1.toNat) l)
    rw [swapT_swp x l (by omega) (by omega)]
    exact runT_runs n ws _ (fun y hy => h y (by simp [hy]))
theorem natW_in (n : Nat) (ws : List S55) (h : inW n ws) : ∀ w, w ∈ natW ws → w.1 < n ∧ w.2 < n ∧ w.1 ≠ w.2 := by
  intro w hw
  obtain ⟨x, hx, rfl⟩ := List.mem_map.1 hw
  have := h x hx
  simp only
  omega
theorem runT_at (n : Nat) (ws : List S55) (l : List Int) (hl : l.length = n) (h : inW n ws) (i : Nat) (hi : i < n) : rd (runT ws l) (i : Int) = NetMath.run ltI (natW ws) (fun j => l.getD j 0) i := by
  rw [runT_runs n ws l h, rdD]
  exact RankMath.runs_run ltI 0 n (natW ws) l _ hl (natW_in n ws h) (fun _ _ => rfl) i hi
theorem okTo_srt (n : Nat) (l : List Int) (f : Nat → Int) (hf : ∀ i, i < n → rd l (i : Int) = f i) : okTo l (n - 1) = true ↔ NetMath.Srt ltI n f := by
  rw [okTo_iff]
  constructor
  · intro h i hi
    have := h i (by omega)
    rw [hf i (by omega), hf (i + 1) hi] at this
    simpa [ltI] using this
  · intro h j hj
    have := h j (by omega)
    rw [hf j (by omega), hf (j + 1) (by omega)]
    simpa [ltI] using this
def e01 (b : Bool) : Int := if b = true then 1 else 0
theorem run_e01 : ∀ (ws : List (Nat × Nat)) (g : Nat → Bool), NetMath.run ltI ws (fun i => e01 (g i)) = fun i => e01 (NetMath.run NetMath.ltB ws g i)
  | [], g => rfl
  | w :: ws, g => by
    have e : NetMath.cx ltI w (fun i => e01 (g i)) = fun i => e01 (NetMath.cx NetMath.ltB w g i) := by
      funext i
      rw [NetMath.cx_at, NetMath.cx_at]
      have hl : ∀ a b, ltI (e01 a) (e01 b) = NetMath.ltB a b := by intro a b; cases a <;> cases b <;> decide
      simp only [hl]
      split
      · split
        · rfl
        · split <;> rfl
      · rfl
    show NetMath.run ltI ws (NetMath.cx ltI w fun i => e01 (g i)) = fun i => e01 (NetMath.run NetMath.ltB ws (NetMath.cx NetMath.ltB w g) i)
    rw [e, run_e01 ws]
/-- The number whose list is a state of two values. -/
def numOf (n : Nat) (g : Nat → Bool) : Nat := NetMath.ofBits (fun t => g (n - 1 - t)) n
theorem numOf_lt (n : Nat) (g : Nat → Bool) : numOf n g < 2 ^ n := by
  refine Nat.lt_pow_two_of_testBit _ (fun i hi => ?_)
  unfold numOf
  rw [NetMath.ofBits_bit, decide_eq_false (by omega), Bool.false_and]
theorem numOf_bits (n : Nat) (g : Nat → Bool) (j : Nat) (hj : j < n) : (bitsL n (numOf n g)).getD j 0 = e01 (g j) := by
  have e : (bitsL n (numOf n g)).getD j 0 = ((numOf n g / 2 ^ (n - 1 - j) % 2 : Nat) : Int) := by simp [bitsL, hj]
  have hb : (numOf n g).testBit (n - 1 - j) = g j := by
    unfold numOf
    rw [NetMath.ofBits_bit, decide_eq_true (by omega), Bool.true_and]
    congr 1; omega
  rw [Nat.testBit_eq_decide_div_mod_eq] at hb
  rw [e]
  unfold e01
  cases hg : g j with
  | true => rw [hg] at hb; rw [of_decide_eq_true hb]; rfl
  | false =>
    rw [hg] at hb
    have := of_decide_eq_false hb
    rw [if_neg (by decide)]
    omega
theorem all_sorted (n : Nat) (ws : List S55) (h : inW n ws) (hall : ∀ x, x < 2 ^ n → okTo (runT ws (bitsL n x)) (n - 1) = true) (l : List Int) (hl : l.length = n) : okTo (runT ws l) (n - 1) = true := by
  refine (okTo_srt n _ _ (fun i hi => runT_at n ws l hl h i hi)).2 ?_
  refine NetMath.zero_one ltI_ord n (natW ws) (fun g => ?_) _
  have h1 := (okTo_srt n _ _ (fun i hi => runT_at n ws (bitsL n (numOf n g)) (bitsL_len n _) h i hi)).1 (hall _ (numOf_lt n g))
  intro i hi
  have hc : ∀ i, i < n → NetMath.run ltI (natW ws) (fun j => (bitsL n (numOf n g)).getD j 0) i = e01 (NetMath.run NetMath.ltB (natW ws) g i) := by
    intro i hi
    rw [NetMath.run_congr ltI n (natW ws) (fun w hw => ⟨(natW_in n ws h w hw).1, (natW_in n ws h w hw).2.1⟩) (fun j hj => numOf_bits n g j hj) i hi, run_e01]
  have h2 := h1 i hi
  rw [hc i (by omega), hc (i + 1) hi] at h2
  revert h2
  cases NetMath.run NetMath.ltB (natW ws) g i <;> cases NetMath.run NetMath.ltB (natW ws) g (i + 1) <;> decide
theorem fs_spec (n : Nat) (hn : 1 ≤ n) (ws : List S55) : ∀ d x, (fs n ws d x = [] ∧ ∀ y, x ≤ y → y < x + d → okTo (runT ws (bitsL n y)) (n - 1) = true) ∨ (∃ y, x ≤ y ∧ y < x + d ∧ fs n ws d x = bitsL n y ∧ okTo (runT ws (bitsL n y)) (n - 1) = false ∧ ∀ z, x ≤ z → z < y → okTo (runT ws (bitsL n z)) (n - 1) = true)
  | 0, x => .inl ⟨rfl, fun y h1 h2 => absurd h2 (by omega)⟩
  | d + 1, x => by
    unfold fs
    cases c : okTo (runT ws (bitsL n x)) (n - 1) with
    | true =>
      rw [if_pos rfl]
      rcases fs_spec n hn ws d (x + 1) with ⟨e, h⟩ | ⟨y, h1, h2, e, h3, h4⟩
      · refine .inl ⟨e, fun y h1 h2 => ?_⟩
        by_cases hy : y = x
        · subst hy; exact c
        · exact h y (by omega) (by omega)
      · refine .inr ⟨y, by omega, by omega, e, h3, fun z z1 z2 => ?_⟩
        by_cases hz : z = x
        · subst hz; exact c
        · exact h4 z (by omega) z2
    | false =>
      rw [if_neg (by decide)]
      exact .inr ⟨x, Nat.le_refl _, by omega, rfl, c, fun z z1 z2 => absurd z1 (by omega)⟩
/-- A bit that is 0, set. -/
theorem bits_set1 (n y i : Nat) (hi : i < n) (hb : y / 2 ^ (n - 1 - i) % 2 = 0) : (bitsL n y).set i 1 = bitsL n (y + 2 ^ (n - 1 - i)) := by
  obtain ⟨t, ht⟩ : ∃ t, t = n - 1 - i := ⟨_, rfl⟩
  rw [← ht] at hb ⊢
  have hd : (y + 2 ^ t) / 2 ^ t = y / 2 ^ t + 1 := Nat.add_div_right _ (Nat.two_pow_pos t)
  apply List.ext_getElem
  · simp [bitsL]
  · intro j h1 h2
    have hj : j < n := by simpa [bitsL] using h2
    rw [List.getElem_set]
    by_cases e : i = j
    · subst e
      rw [if_pos rfl]
      simp only [bitsL, List.getElem_map, List.getElem_range]
      rw [← ht, hd]
      generalize y / 2 ^ t = q at hb
      have : (q + 1) % 2 = 1 := by omega
      rw [this]; rfl
    · rw [if_neg e]
      simp only [bitsL, List.getElem_map, List.getElem_range]
      congr 1
      by_cases c : j < i
      · obtain ⟨d, hd2⟩ : ∃ d, n - 1 - j = t + (d + 1) := ⟨n - 1 - j - t - 1, by omega⟩
        rw [hd2, Nat.pow_add, ← Nat.div_div_eq_div_mul, ← Nat.div_div_eq_div_mul, hd, Nat.pow_succ, Nat.mul_comm (2 ^ d) 2, ← Nat.div_div_eq_div_mul, ← Nat.div_div_eq_div_mul]
        generalize y / 2 ^ t = q at hb
        rw [show (q + 1) / 2 = q / 2 by omega]
      · obtain ⟨d, hd2⟩ : ∃ d, t = (n - 1 - j) + (d + 1) := ⟨t - (n - 1 - j) - 1, by omega⟩
        rw [hd2, Nat.pow_add, Nat.mul_comm, Nat.add_mul_div_right _ _ (Nat.two_pow_pos _), Nat.pow_succ, Nat.mul_comm, Nat.add_mul_mod_self_left]
theorem bits_set0 (n y i : Nat) (hi : i < n) (hb : y / 2 ^ (n - 1 - i) % 2 = 1) : 2 ^ (n - 1 - i) ≤ y ∧ (bitsL n y).set i 0 = bitsL n (y - 2 ^ (n - 1 - i)) := by
  obtain ⟨t, ht⟩ : ∃ t, t = n - 1 - i := ⟨_, rfl⟩
  rw [← ht] at hb ⊢
  have hle : 2 ^ t ≤ y := by
    rcases Nat.lt_or_ge y (2 ^ t) with h | h
    · rw [Nat.div_eq_of_lt h] at hb; omega
    · exact h
  obtain ⟨z, rfl⟩ : ∃ z, y = z + 2 ^ t := ⟨y - 2 ^ t, by omega⟩
  rw [Nat.add_div_right _ (Nat.two_pow_pos t)] at hb
  have hz : z / 2 ^ t % 2 = 0 := by generalize z / 2 ^ t = q at hb; omega
  refine ⟨hle, ?_⟩
  rw [Nat.add_sub_cancel]
  have h1 := bits_set1 n z i hi (by rw [← ht]; exact hz)
  rw [← ht] at h1
  rw [← h1, List.set_set]
  apply List.ext_getElem
  · simp
  · intro j h1 h2
    rw [List.getElem_set]
    split
    · rename_i e
      subst e
      simp only [bitsL, List.getElem_map, List.getElem_range]
      rw [← ht, hz]; rfl
    · rfl
theorem zeros_sorted (n : Nat) (ws : List S55) (h : inW n ws) : okTo (runT ws (bitsL n 0)) (n - 1) = true := by
  refine (okTo_srt n _ _ (fun i hi => runT_at n ws (bitsL n 0) (bitsL_len n _) h i hi)).2 ?_
  have hz : ∀ j : Nat, (bitsL n 0).getD j 0 = 0 := by
    intro j
    by_cases c : j < n
    · simp [bitsL, c]
    · simp [bitsL, c]
  have hr : ∀ ws : List (Nat × Nat), NetMath.run ltI ws (fun _ => (0 : Int)) = fun _ => 0 := by
    intro ws
    induction ws with
    | nil => rfl
    | cons w ws ih =>
      show NetMath.run ltI ws (NetMath.cx ltI w fun _ => (0 : Int)) = fun _ => 0
      have : NetMath.cx ltI w (fun _ => (0 : Int)) = fun _ => 0 := by
        funext i
        rw [NetMath.cx_at]
        simp [ltI]
      rw [this, ih]
  intro i hi
  simp only [hz, hr]
  rfl
/-- The state of a reader of draws: where it stands, and its seed. -/
def Ok (at_ seed b : Int) : Prop := 0 ≤ at_ ∧ at_ ≤ b ∧ 0 ≤ seed ∧ seed < 65521
def Bytes (l : List Int) : Prop := l.length ≤ 1048576 ∧ ∀ x, x ∈ l → 0 ≤ x ∧ x ≤ 255
theorem Ok.up {a s b b' : Int} (h : Ok a s b) (hb : b ≤ b') : Ok a s b' := ⟨h.1, by have := h.2.1; omega, h.2.2⟩
theorem bytes_of {l : List Int} (h1 : l.length ≤ 1048576) (h2 : ∀ x, x ∈ l → (Lit.int .u8 x).wf = true) : Bytes l := by
  refine ⟨h1, fun x hx => ?_⟩
  have := h2 x hx
  simp [Lit.wf, IntKind.min, IntKind.max, IntKind.signed, IntKind.bits] at this
  omega
theorem rd_byte {l : List Int} (h : Bytes l) (i : Int) : 0 ≤ rd l i ∧ rd l i ≤ 255 := by
  unfold rd
  rw [List.getD_eq_getElem?_getD]
  cases e : l[i.toNat]? with
  | none => simp
  | some x => exact h.2 x (List.mem_of_getElem? e)
theorem tmod_pos {a n : Int} (h0 : 0 ≤ a) (hn : 0 < n) : 0 ≤ Int.tmod a n ∧ Int.tmod a n < n := by
  rw [Int.tmod_eq_emod_of_nonneg h0]
  exact ⟨Int.emod_nonneg _ (by omega), Int.emod_lt_of_pos _ hn⟩
theorem pick_ok {l : List Int} (hl : Bytes l) {a s b : Int} (h : Ok a s b) (hb : b ≤ 1000000000000) (n : Int) :
    ∃ r a' s', spec_l01Cur_pick.f l a s n = some (r, a', s') ∧ 0 ≤ r ∧ (2 ≤ n → r < n) ∧ (n < 2 → r = 0) ∧ Ok a' s' (b + 1) := by
  obtain ⟨h0, h1, h2, h3⟩ := h
  have hlen := hl.1
  unfold spec_l01Cur_pick.f
  by_cases c1 : n < 2
  · rw [if_pos c1]
    exact ⟨0, a, s, rfl, by omega, fun _ => by omega, fun _ => rfl, h0, by omega, h2, h3⟩
  · rw [if_neg c1]
    have w1 : wrap64 (a + 1) = a + 1 := by unfold wrap64; omega
    have w2 : wrap64 (s * 1103) = s * 1103 := by unfold wrap64; omega
    have w3 : wrap64 (s * 1103 + 12345) = s * 1103 + 12345 := by unfold wrap64; omega
    rw [w1, w2, w3]
    have hs := tmod_pos (a := s * 1103 + 12345) (n := 65521) (by omega) (by omega)
    generalize Int.tmod (s * 1103 + 12345) 65521 = s1 at hs
    have hok : Ok (a + 1) s1 (b + 1) := ⟨by omega, by omega, hs.1, hs.2⟩
    by_cases c2 : a < (l.length : Int)
    · rw [if_pos c2, if_pos h0, if_neg (by omega)]
      have hr := rd_byte hl a
      rw [show wrap64 (rd l a) = rd l a from by unfold wrap64; omega]
      have hm := tmod_pos (a := rd l a) (n := n) hr.1 (by omega)
      exact ⟨_, _, _, rfl, hm.1, fun _ => hm.2, fun h => absurd h c1, by omega, by omega, h2, h3⟩
    · rw [if_neg c2]
      by_cases c3 : (l.length : Int) > 0
      · rw [if_pos c3, if_neg (by omega)]
        have hi := tmod_pos (a := a) (n := (l.length : Int)) h0 c3
        rw [if_pos hi.1, if_pos hi.2, if_neg (by omega)]
        have hr := rd_byte hl (Int.tmod a (l.length : Int))
        generalize rd l (Int.tmod a (l.length : Int)) = y at hr
        have hd : 0 ≤ Int.tdiv s1 7 ∧ Int.tdiv s1 7 ≤ 65521 := by
          rw [Int.tdiv_eq_ediv_of_nonneg hs.1]; omega
        generalize Int.tdiv s1 7 = z at hd
        rw [show wrap64 z = z from by unfold wrap64; omega, show wrap64 y = y from by unfold wrap64; omega, show wrap64 (z + y) = z + y from by unfold wrap64; omega]
        have hm := tmod_pos (a := z + y) (n := n) (by omega) (by omega)
        exact ⟨_, _, _, rfl, hm.1, fun _ => hm.2, fun h => absurd h c1, hok⟩
      · rw [if_neg c3, if_neg (by omega)]
        have e : (0 : Int) % n = 0 := Int.zero_emod n
        rw [e]
        exact ⟨_, _, _, rfl, by omega, fun _ => by omega, fun h => absurd h c1, hok⟩
theorem raw_ok {l : List Int} (hl : Bytes l) {a s b : Int} (h : Ok a s b) (hb : b ≤ 900000000000) :
    ∃ r a' s', spec_l01Cur_raw.f l a s = some (r, a', s') ∧ (-9223372036854775808 ≤ r ∧ r ≤ 9223372036854775807) ∧ Ok a' s' (b + 2) := by
  obtain ⟨r1, a1, s1, e1, k1, k2, _, o1⟩ := pick_ok hl h (by omega) 8
  unfold spec_l01Cur_raw.f
  rw [e1]
  simp only [Option.bind_some]
  by_cases c1 : r1 = 0
  · rw [if_pos c1]
    obtain ⟨r2, a2, s2, e2, k3, k4, _, o2⟩ := pick_ok hl o1 (by omega) 256
    rw [e2]
    have := k4 (by omega)
    exact ⟨_, _, _, rfl, by rw [show wrap64 (r2 - 128) = r2 - 128 from by unfold wrap64; omega]; omega, o2.up (by omega)⟩
  · rw [if_neg c1]
    by_cases c2 : r1 = 1
    · rw [if_pos c2]
      obtain ⟨r2, a2, s2, e2, k3, k4, _, o2⟩ := pick_ok hl o1 (by omega) 8
      simp only [e2, Option.bind_some]
      rw [if_pos k3, if_pos (by have := k4 (by omega); simpa using this)]
      refine ⟨_, _, _, rfl, ?_, o2.up (by omega)⟩
      have k5 := k4 (by omega)
      have h8 : r2 = 0 ∨ r2 = 1 ∨ r2 = 2 ∨ r2 = 3 ∨ r2 = 4 ∨ r2 = 5 ∨ r2 = 6 ∨ r2 = 7 := by omega
      rcases h8 with rfl | rfl | rfl | rfl | rfl | rfl | rfl | rfl <;> decide
    · rw [if_neg c2]
      obtain ⟨r2, a2, s2, e2, k3, k4, _, o2⟩ := pick_ok hl o1 (by omega) 14
      rw [e2]
      have := k4 (by omega)
      exact ⟨_, _, _, rfl, by rw [show wrap64 (r2 - 3) = r2 - 3 from by unfold wrap64; omega]; omega, o2.up (by omega)⟩
theorem open_ok {l : List Int} (hl : Bytes l) : ∃ s, spec_l01Open.f l = some (l, 0, s) ∧ Ok 0 s 0 := by
  refine ⟨_, rfl, by omega, by omega, ?_, ?_⟩ <;> omega
theorem once_ok {l : List Int} (hl : Bytes l) {a s b : Int} (h : Ok a s b) (hb : b ≤ 900000000000) (n : Int) :
    ∃ r a' s', spec_l01Cur_once.f l a s n = some (r, a', s') ∧ Ok a' s' (b + 1) := by
  obtain ⟨r, a', s', e, _, _, _, o⟩ := pick_ok hl h (by omega) n
  unfold spec_l01Cur_once.f
  rw [e]
  exact ⟨_, _, _, rfl, o⟩
/-! the draws of nets: that they come to an end -/
def smallN (x : Option (Int × List S55)) : Bool := match x with | none => false | some p => decide (p.2.length ≤ 100)
theorem smallN_ok (x : Option (Int × List S55)) (h : smallN x = true) : ∃ n ws, x = some (n, ws) ∧ ws.length ≤ 100 := by
  match x, h with
  | some p, h => exact ⟨p.1, p.2, rfl, of_decide_eq_true h⟩
set_option maxRecDepth 100000 in
theorem bubble_all : ∀ n : Fin 14, smallN (spec_Bubble.f 300 (n.val : Int)) = true := by decide +kernel
theorem bubble_ok (n : Nat) (hn : n < 14) (k : Nat) (hk : 300 ≤ k) : ∃ m ws, spec_Bubble.f k (n : Int) = some (m, ws) ∧ ws.length ≤ 100 := by
  obtain ⟨m, ws, e, h⟩ := smallN_ok _ (bubble_all ⟨n, hn⟩)
  refine ⟨m, ws, ?_, h⟩
  obtain ⟨d, rfl⟩ : ∃ d, k = 300 + d := ⟨k - 300, by omega⟩
  exact leo_up (fun k => spec_Bubble.f k (n : Int)) (fun k => spec_Bubble.mono _ k) 300 _ e d
def smallB (n : Nat) (x : Option Bool) : Bool := match x with
  | none => false
  | some b => if b = true then smallN (spec_Bitonic.f 300 (n : Int)) && smallN (spec_OddEven.f 300 (n : Int)) else decide (1 < n)
set_option maxRecDepth 100000 in
theorem two_all : ∀ n : Fin 11, n.val = 0 ∨ smallB n.val (spec_l08Two.f (n.val : Int)) = true := by decide +kernel
theorem two_ok (n : Nat) (h1 : 1 ≤ n) (hn : n < 11) (k : Nat) (hk : 300 ≤ k) : ∃ b, spec_l08Two.f (n : Int) = some b ∧ (b = false → 1 < n) ∧ (b = true → (∃ m ws, spec_Bitonic.f k (n : Int) = some (m, ws) ∧ ws.length ≤ 100) ∧ (∃ m ws, spec_OddEven.f k (n : Int) = some (m, ws) ∧ ws.length ≤ 100)) := by
  rcases two_all ⟨n, hn⟩ with h | h
  · exact absurd h (by simp only; omega)
  · simp only at h
    cases e : spec_l08Two.f (n : Int) with
    | none => rw [e] at h; exact absurd h (by simp [smallB])
    | some b =>
      rw [e] at h
      refine ⟨b, rfl, ?_, ?_⟩
      · rintro rfl
        exact of_decide_eq_true h
      · rintro rfl
        simp only [smallB, if_true, Bool.and_eq_true] at h
        obtain ⟨d, rfl⟩ : ∃ d, k = 300 + d := ⟨k - 300, by omega⟩
        obtain ⟨m, ws, e1, l1⟩ := smallN_ok _ h.1
        obtain ⟨m', ws', e2, l2⟩ := smallN_ok _ h.2
        exact ⟨⟨m, ws, leo_up (fun k => spec_Bitonic.f k (n : Int)) (fun k => spec_Bitonic.mono _ k) 300 _ e1 d, l1⟩, ⟨m', ws', leo_up (fun k => spec_OddEven.f k (n : Int)) (fun k => spec_OddEven.mono _ k) 300 _ e2 d, l2⟩⟩
theorem size20_ok {l : List Int} (hl : Bytes l) {a s b : Int} (h : Ok a s b) (hb : b ≤ 900000000000) :
    ∃ (n : Nat) (a' s' : Int), spec_l01Cur_size.f l a s 20 = some ((n : Int), a', s') ∧ n ≤ 20 ∧ Ok a' s' (b + 1) := by
  unfold spec_l01Cur_size.f
  have hlen := hl.1
  have hd : 0 ≤ (l.length : Int) / 8 ∧ (l.length : Int) / 8 ≤ 1048576 := by omega
  generalize (l.length : Int) / 8 = q at hd
  rw [show wrap64 q = q from by unfold wrap64; omega, show wrap64 (1 + q) = 1 + q from by unfold wrap64; omega]
  have hm : 1 ≤ mn 20 (1 + q) ∧ mn 20 (1 + q) ≤ 20 := by unfold mn; split <;> omega
  generalize mn 20 (1 + q) = m at hm
  rw [show wrap64 (m + 1) = m + 1 from by unfold wrap64; omega]
  obtain ⟨r, a1, s1, e1, k1, k2, k3, o1⟩ := pick_ok hl h (by omega) (m + 1)
  rw [e1]
  simp only [Option.bind_some]
  have := k2 (by omega)
  obtain ⟨n, rfl⟩ := Int.eq_ofNat_of_zero_le k1
  exact ⟨n, a1, s1, rfl, by omega, o1⟩
theorem net_l0 {l : List Int} (hl : Bytes l) : ∀ (n k : Nat) (a s b : Int), Ok a s b → b ≤ 300000000000 → 1 ≤ n → n < 11 → n + 400 < k →
    ∃ m ws a' s', spec_l01Cur_net.l0 k l a s (n : Int) = some (m, ws, a', s') ∧ ws.length ≤ 200 ∧ Ok a' s' (b + 1) := by
  intro n
  induction n with
  | zero => intro k a s b h hb h1; omega
  | succ n ih =>
    intro k a s b h hb h1 hn hk
    obtain ⟨k, rfl⟩ : ∃ m, k = m + 1 := ⟨k - 1, by omega⟩
    obtain ⟨t, e, t1, t2⟩ := two_ok (n + 1) h1 hn k (by omega)
    simp only [spec_l01Cur_net.l0]
    rw [e, Option.bind_some]
    cases t with
    | false =>
      have := t1 rfl
      rw [if_pos (by decide), show wrap64 (((n + 1 : Nat) : Int) - 1) = (n : Int) from by unfold wrap64; omega]
      exact ih k a s b h hb (by omega) (by omega) (by omega)
    | true =>
      obtain ⟨⟨m, ws, e1, l1⟩, ⟨m', ws', e2, l2⟩⟩ := t2 rfl
      rw [if_neg (by decide)]
      obtain ⟨r, a1, s1, e3, o1⟩ := once_ok hl h (by omega) 2
      rw [e3, Option.bind_some]
      dsimp only
      cases r with
      | true => rw [if_pos rfl, e1, Option.bind_some]; exact ⟨m, ws, a1, s1, rfl, by omega, o1⟩
      | false => rw [if_neg (by decide), e2, Option.bind_some]; exact ⟨m', ws', a1, s1, rfl, by omega, o1⟩
theorem net_end {l : List Int} (hl : Bytes l) (k : Nat) (p c m : Int) (ws : List S55) {a s b : Int} (h : Ok a s b) (hb : b ≤ 300000000000) (hw : ws.length ≤ 190) :
    ∃ m' ws' a' s', spec_l01Cur_net.j3 (k + 1) p c false l a s m ws = some (m', ws', a', s') ∧ ws'.length ≤ 200 ∧ Ok a' s' (b + 2) := by
  simp only [spec_l01Cur_net.j3]
  rw [if_neg (by decide)]
  by_cases c0 : (ws.length : Int) > 0
  · rw [if_pos c0]
    obtain ⟨r, a1, s1, e1, o1⟩ := once_ok hl h (by omega) 3
    rw [e1, Option.bind_some]
    dsimp only
    cases r with
    | false => rw [if_neg (by decide)]; exact ⟨_, _, _, _, rfl, by omega, o1.up (by omega)⟩
    | true =>
      rw [if_pos rfl]
      obtain ⟨r2, a2, s2, e2, k1, k2, k3, o2⟩ := pick_ok hl o1 (by omega) (ws.length : Int)
      have hr : r2 < (ws.length : Int) := by
        by_cases c1 : 2 ≤ (ws.length : Int)
        · exact k2 c1
        · have := k3 (by omega); omega
      obtain ⟨i, rfl⟩ := Int.eq_ofNat_of_zero_le k1
      rw [e2, Option.bind_some]
      dsimp only
      have ew : wrap64 ((i : Int) + 1) = ((i + 1 : Nat) : Int) := by unfold wrap64; omega
      rw [Option.bind_some, if_pos k1, if_pos (by omega), Option.bind_some, Int.toNat_natCast, if_pos (by simp; omega), Option.bind_some, ew, if_pos (by omega), if_pos (by omega), Option.bind_some, Int.toNat_natCast, if_pos (by simp; omega)]
      exact ⟨_, _, _, _, rfl, by simp; omega, o2.up (by omega)⟩
  · rw [if_neg c0]
    exact ⟨_, _, _, _, rfl, by omega, h.up (by omega)⟩
theorem net_l1 {l : List Int} (hl : Bytes l) (p : Int) (hp : 1 ≤ p ∧ p ≤ 20) (m : Int) : ∀ (d k : Nat) (ws : List S55) (a s b : Int), Ok a s b → b + 10 * (d : Int) ≤ 200000000000 → ws.length + d ≤ 180 → 2 * d + 5 < k →
    ∃ m' ws' a' s', spec_l01Cur_net.l1 k p (d : Int) l a s m ws = some (m', ws', a', s') ∧ ws'.length ≤ 200 ∧ Ok a' s' (b + 10 * (d : Int) + 2) := by
  intro d
  induction d with
  | zero =>
    intro k ws a s b h hb hw hk
    obtain ⟨k, rfl⟩ : ∃ m, k = m + 2 := ⟨k - 2, by omega⟩
    rw [show k + 2 = (k + 1) + 1 from rfl]
    simp only [spec_l01Cur_net.l1]
    rw [if_neg (by omega)]
    obtain ⟨m', ws', a', s', e, l1, o⟩ := net_end hl k p ((0 : Nat) : Int) m ws h (by omega) (by omega)
    exact ⟨m', ws', a', s', e, l1, o.up (by omega)⟩
  | succ d ih =>
    intro k ws a s b h hb hw hk
    obtain ⟨k, rfl⟩ : ∃ m, k = m + 2 := ⟨k - 2, by omega⟩
    rw [show k + 2 = (k + 1) + 1 from rfl]
    simp only [spec_l01Cur_net.l1]
    rw [if_pos (by omega)]
    by_cases c : p > 1
    · rw [decide_eq_true c]
      simp only [spec_l01Cur_net.j3]
      rw [if_pos trivial]
      obtain ⟨r1, a1, s1, e1, k1, k2, _, o1⟩ := pick_ok hl h (by omega) (wrap64 (p - 1))
      rw [e1, Option.bind_some]
      dsimp only
      obtain ⟨r2, a2, s2, e2, k3, k4, _, o2⟩ := pick_ok hl o1 (by omega) (wrap64 (wrap64 (p - 1) - r1))
      rw [e2, Option.bind_some]
      dsimp only
      rw [if_pos (by omega), show wrap64 (((d + 1 : Nat) : Int) - 1) = (d : Int) from by unfold wrap64; omega]
      obtain ⟨m', ws', a', s', e, l1, o⟩ := ih k (ws ++ [⟨r1, wrap64 (wrap64 (r1 + 1) + r2)⟩]) a2 s2 _ o2 (by omega) (by simp; omega) (by omega)
      exact ⟨m', ws', a', s', e, l1, o.up (by omega)⟩
    · rw [decide_eq_false c]
      obtain ⟨m', ws', a', s', e, l1, o⟩ := net_end hl k p ((d + 1 : Nat) : Int) m ws h (by omega) (by omega)
      exact ⟨m', ws', a', s', e, l1, o.up (by omega)⟩
theorem net_j1 {l : List Int} (hl : Bytes l) (p : Int) (hp : 1 ≤ p ∧ p ≤ 20) (m : Int) (k : Nat) (hk : 60 < k) (ws : List S55) {a s b : Int} (h : Ok a s b) (hb : b ≤ 100000000000) (hw : ws.length ≤ 100) :
    ∃ m' ws' a' s', spec_l01Cur_net.j1 k p l a s m ws = some (m', ws', a', s') ∧ ws'.length ≤ 200 ∧ Ok a' s' (b + 300) := by
  obtain ⟨k, rfl⟩ : ∃ m, k = m + 1 := ⟨k - 1, by omega⟩
  simp only [spec_l01Cur_net.j1]
  obtain ⟨n, a1, s1, e1, hn, o1⟩ := size20_ok hl h (by omega)
  rw [e1, Option.bind_some]
  dsimp only
  obtain ⟨m', ws', a', s', e, l1, o⟩ := net_l1 hl p hp m n k ws a1 s1 _ o1 (by omega) (by omega) (by omega)
  exact ⟨m', ws', a', s', e, l1, o.up (by omega)⟩
theorem net_ok {l : List Int} (hl : Bytes l) {a s b : Int} (h : Ok a s b) (hb : b ≤ 90000000000) (k : Nat) (hk : 500 < k) :
    ∃ m ws a' s', spec_l01Cur_net.f k l a s 10 = some (m, ws, a', s') ∧ ws.length ≤ 200 ∧ Ok a' s' (b + 400) := by
  unfold spec_l01Cur_net.f
  obtain ⟨r1, a1, s1, e1, k1, k2, _, o1⟩ := pick_ok hl h (by omega) 10
  rw [e1, Option.bind_some]
  dsimp only
  obtain ⟨r2, a2, s2, e2, _, _, _, o2⟩ := pick_ok hl o1 (by omega) 4
  rw [e2, Option.bind_some]
  dsimp only
  have := k2 (by omega)
  obtain ⟨n, rfl⟩ := Int.eq_ofNat_of_zero_le k1
  rw [show wrap64 (1 + (n : Int)) = ((n + 1 : Nat) : Int) from by unfold wrap64; omega]
  by_cases c0 : r2 = 0
  · rw [if_pos c0]
    obtain ⟨m, ws, e, hw⟩ := bubble_ok (n + 1) (by omega) k (by omega)
    rw [e, Option.bind_some]
    dsimp only
    obtain ⟨m', ws', a', s', e, l1, o⟩ := net_j1 hl ((n + 1 : Nat) : Int) (by omega) m k (by omega) ws o2 (by omega) hw
    exact ⟨m', ws', a', s', e, l1, o.up (by omega)⟩
  · rw [if_neg c0]
    by_cases c1 : r2 = 1
    · rw [if_pos c1]
      obtain ⟨m', ws', a', s', e, l1, o⟩ := net_l0 hl (n + 1) k a2 s2 _ o2 (by omega) (by omega) (by omega) (by omega)
      exact ⟨m', ws', a', s', e, l1, o.up (by omega)⟩
    · rw [if_neg c1]
      obtain ⟨m', ws', a', s', e, l1, o⟩ := net_j1 hl ((n + 1 : Nat) : Int) (by omega) ((n + 1 : Nat) : Int) k (by omega) [] o2 (by omega) (by simp)
      exact ⟨m', ws', a', s', e, l1, o.up (by omega)⟩
theorem bad_l0 {l : List Int} (hl : Bytes l) (m : Int) : ∀ (d k : Nat) (ws : List S55) (a s b : Int), Ok a s b → b + 10 * (d : Int) ≤ 300000000000 → 2102 - ws.length = d → ws.length ≤ 2200 → d < k →
    ∃ m' ws' a' s', spec_l01Cur_badNet.l0 k l a s m ws = some (m', ws', a', s') ∧ ws'.length ≤ 2300 ∧ Ok a' s' (b + 10 * (d : Int) + 10) := by
  intro d
  induction d with
  | zero =>
    intro k ws a s b h hb hd hw hk
    obtain ⟨k, rfl⟩ : ∃ m, k = m + 1 := ⟨k - 1, by omega⟩
    simp only [spec_l01Cur_badNet.l0]
    obtain ⟨r, a1, s1, e1, k1, k2, _, o1⟩ := pick_ok hl h (by omega) 2
    rw [e1, Option.bind_some]
    dsimp only
    have := k2 (by omega)
    rw [show wrap64 (2100 + r) = 2100 + r from by unfold wrap64; omega, if_neg (by omega)]
    exact ⟨_, _, _, _, rfl, by omega, o1.up (by omega)⟩
  | succ d ih =>
    intro k ws a s b h hb hd hw hk
    obtain ⟨k, rfl⟩ : ∃ m, k = m + 1 := ⟨k - 1, by omega⟩
    simp only [spec_l01Cur_badNet.l0]
    obtain ⟨r, a1, s1, e1, k1, k2, _, o1⟩ := pick_ok hl h (by omega) 2
    rw [e1, Option.bind_some]
    dsimp only
    have := k2 (by omega)
    rw [show wrap64 (2100 + r) = 2100 + r from by unfold wrap64; omega]
    by_cases c : (ws.length : Int) < 2100 + r
    · rw [if_pos c, if_pos (by omega)]
      obtain ⟨m', ws', a', s', e, l1, o⟩ := ih k (ws ++ [⟨0, 1⟩]) a1 s1 _ o1 (by omega) (by simp; omega) (by simp; omega) (by omega)
      exact ⟨m', ws', a', s', e, l1, o.up (by omega)⟩
    · rw [if_neg c]
      exact ⟨_, _, _, _, rfl, by omega, o1.up (by omega)⟩
theorem badNet_ok {l : List Int} (hl : Bytes l) {a s b : Int} (h : Ok a s b) (hb : b ≤ 80000000000) (k : Nat) (hk : 2300 < k) :
    ∃ m ws a' s', spec_l01Cur_badNet.f k l a s = some (m, ws, a', s') ∧ ws.length ≤ 2300 ∧ Ok a' s' (b + 30000) := by
  unfold spec_l01Cur_badNet.f
  obtain ⟨m, ws, a1, s1, e1, hw, o1⟩ := net_ok hl h (by omega) k (by omega)
  rw [e1, Option.bind_some]
  dsimp only
  obtain ⟨r2, a2, s2, e2, _, _, _, o2⟩ := pick_ok hl o1 (by omega) 12
  rw [e2, Option.bind_some]
  dsimp only
  by_cases c0 : r2 = 0
  · rw [if_pos c0]
    obtain ⟨r3, a3, s3, e3, _, o3⟩ := raw_ok hl o2 (by omega)
    rw [e3, Option.bind_some]
    dsimp only
    rw [Option.bind_some]
    obtain ⟨r4, a4, s4, e4, k1, k2, _, o4⟩ := pick_ok hl o3 (by omega) 4
    rw [e4, Option.bind_some]
    dsimp only
    have := k2 (by omega)
    rw [if_pos k1, if_pos (by simpa using this)]
    exact ⟨_, _, _, _, rfl, by omega, o4.up (by omega)⟩
  · rw [if_neg c0]
    by_cases c1 : r2 = 1
    · rw [if_pos c1]
      obtain ⟨r3, a3, s3, e3, _, o3⟩ := raw_ok hl o2 (by omega)
      rw [e3, Option.bind_some]
      dsimp only
      obtain ⟨r4, a4, s4, e4, _, o4⟩ := raw_ok hl o3 (by omega)
      rw [e4, Option.bind_some]
      dsimp only
      rw [if_pos (by omega)]
      exact ⟨_, _, _, _, rfl, by simp; omega, o4.up (by omega)⟩
    · rw [if_neg c1]
      by_cases c2 : r2 = 2
      · rw [if_pos c2]
        obtain ⟨r3, a3, s3, e3, o3⟩ := once_ok hl o2 (by omega) 4
        rw [e3, Option.bind_some]
        dsimp only
        cases r3 with
        | true =>
          rw [if_pos rfl]
          obtain ⟨m', ws', a', s', e, l1, o⟩ := bad_l0 hl m (2102 - ws.length) k ws a3 s3 _ o3 (by omega) rfl (by omega) (by omega)
          exact ⟨m', ws', a', s', e, l1, o.up (by omega)⟩
        | false =>
          rw [if_neg (by decide)]
          exact ⟨_, _, _, _, rfl, by omega, o3.up (by omega)⟩
      · rw [if_neg c2]
        exact ⟨_, _, _, _, rfl, by omega, o2.up (by omega)⟩
theorem lawpick_l0 {l : List Int} (hl : Bytes l) (hp : 0 < l.length) (a n : Int) (ha : 0 ≤ a ∧ a ≤ 1000000) (hn : n ≠ 0) : ∀ (d k i : Nat) (x : Int), 3 - i = d → i ≤ 3 → d < k → ∃ r, laws_pick.l0 k l a n x (i : Int) = some r := by
  intro d
  induction d with
  | zero =>
    intro k i x hd hi hk
    obtain ⟨k, rfl⟩ : ∃ m, k = m + 1 := ⟨k - 1, by omega⟩
    simp only [laws_pick.l0]
    rw [if_neg (by omega), if_neg hn]
    exact ⟨_, rfl⟩
  | succ d ih =>
    intro k i x hd hi hk
    obtain ⟨k, rfl⟩ : ∃ m, k = m + 1 := ⟨k - 1, by omega⟩
    have hm := tmod_pos (a := wrap64 (a + (i : Int))) (n := (l.length : Int)) (by unfold wrap64; omega) (by omega)
    simp only [laws_pick.l0]
    rw [if_pos (by omega), if_neg (by omega), if_pos hm.1, if_pos hm.2, show wrap64 ((i : Int) + 1) = ((i + 1 : Nat) : Int) from by unfold wrap64; omega]
    exact ih k (i + 1) _ (by omega) (by omega) (by omega)
theorem lawpick_ok {l : List Int} (hl : Bytes l) (a n : Int) (ha : 0 ≤ a ∧ a ≤ 1000000) (k : Nat) (hk : 6 < k) : ∃ r, laws_pick.f k l a n = some r := by
  obtain ⟨k, rfl⟩ : ∃ m, k = m + 1 := ⟨k - 1, by omega⟩
  unfold laws_pick.f
  by_cases c : (l.length : Int) = 0
  · rw [if_pos c]
    exact ⟨0, by simp only [laws_pick.j0]; rw [if_pos trivial]⟩
  · rw [if_neg c]
    simp only [laws_pick.j0]
    by_cases c1 : n < 2
    · rw [decide_eq_true c1, if_pos rfl]; exact ⟨0, rfl⟩
    · rw [decide_eq_false c1, if_neg (by decide)]
      exact lawpick_l0 hl (by omega) a n ha (by omega) 3 k 0 0 (by omega) (by omega) (by omega)
theorem drawSorts_ok {l : List Int} (hl : Bytes l) (k : Nat) (hk : 2400 < k) : ∃ n ws, spec_DrawNetSorts.f k l = some (n, ws) ∧ ws.length ≤ 2300 := by
  unfold spec_DrawNetSorts.f
  obtain ⟨s, e0, o0⟩ := open_ok hl
  rw [e0, Option.bind_some]
  dsimp only
  obtain ⟨m, ws, a1, s1, e1, hw, o1⟩ := badNet_ok hl o0 (by omega) k (by omega)
  rw [e1, Option.bind_some]
  dsimp only
  obtain ⟨r, a2, s2, e2, o2⟩ := once_ok hl o1 (by omega) 12
  rw [e2, Option.bind_some]
  dsimp only
  cases r with
  | false => rw [if_neg (by decide)]; exact ⟨_, _, rfl, hw⟩
  | true =>
    rw [if_pos rfl]
    obtain ⟨r3, a3, s3, e3, k1, k2, _, o3⟩ := pick_ok hl o2 (by omega) 4
    rw [e3, Option.bind_some]
    dsimp only
    have := k2 (by omega)
    obtain ⟨i, rfl⟩ := Int.eq_ofNat_of_zero_le k1
    obtain ⟨m', ws', e, h⟩ := bubble_ok (10 + i) (by omega) k (by omega)
    rw [show wrap64 (10 + (i : Int)) = ((10 + i : Nat) : Int) from by unfold wrap64; omega, e, Option.bind_some]
    exact ⟨m', ws', rfl, by omega⟩
theorem drawRun_l0 {l : List Int} (hl : Bytes l) (n : Int) (ws : List S55) : ∀ (d k : Nat) (x : List Int) (a s b : Int), Ok a s b → b + 10 * (d : Int) ≤ 300000000000 → 72 - x.length = d → x.length ≤ 80 → d < k → ∃ X, spec_DrawNetRun.l0 k x l a s n ws = some (n, ws, X) ∧ X.length ≤ 100 := by
  intro d
  have hm : mx 0 (mn 70 n) ≤ 70 := by unfold mx mn; split <;> split <;> omega
  induction d with
  | zero =>
    intro k x a s b h hb hd hx hk
    obtain ⟨k, rfl⟩ : ∃ m, k = m + 1 := ⟨k - 1, by omega⟩
    simp only [spec_DrawNetRun.l0]
    rw [if_neg (by omega)]
    obtain ⟨r, a1, s1, e1, o1⟩ := once_ok hl h (by omega) 9
    rw [e1, Option.bind_some]
    dsimp only
    cases r with
    | true => rw [if_pos rfl, if_pos (by omega)]; exact ⟨_, rfl, by simp; omega⟩
    | false => rw [if_neg (by decide)]; exact ⟨_, rfl, by omega⟩
  | succ d ih =>
    intro k x a s b h hb hd hx hk
    obtain ⟨k, rfl⟩ : ∃ m, k = m + 1 := ⟨k - 1, by omega⟩
    simp only [spec_DrawNetRun.l0]
    by_cases c : (x.length : Int) < mx 0 (mn 70 n)
    · rw [if_pos c]
      obtain ⟨r1, a1, s1, e1, _, _, _, o1⟩ := pick_ok hl h (by omega) 9
      rw [e1, Option.bind_some]
      dsimp only
      obtain ⟨r2, a2, s2, e2, _, _, _, o2⟩ := pick_ok hl o1 (by omega) 256
      rw [e2, Option.bind_some]
      dsimp only
      obtain ⟨r3, a3, s3, e3, _, o3⟩ := raw_ok hl o2 (by omega)
      rw [e3, Option.bind_some]
      dsimp only
      rw [Option.bind_some]
      obtain ⟨r4, a4, s4, e4, k1, k2, _, o4⟩ := pick_ok hl o3 (by omega) 3
      rw [e4, Option.bind_some]
      dsimp only
      have := k2 (by omega)
      rw [if_pos k1, if_pos (by simpa using this), if_pos (by omega)]
      exact ih k _ a4 s4 _ o4 (by omega) (by simp; omega) (by simp; omega) (by omega)
    · rw [if_neg c]
      obtain ⟨r, a1, s1, e1, o1⟩ := once_ok hl h (by omega) 9
      rw [e1, Option.bind_some]
      dsimp only
      cases r with
      | true => rw [if_pos rfl, if_pos (by omega)]; exact ⟨_, rfl, by simp; omega⟩
      | false => rw [if_neg (by decide)]; exact ⟨_, rfl, by omega⟩
theorem drawRun_ok {l : List Int} (hl : Bytes l) (k : Nat) (hk : 2400 < k) : ∃ n ws X, spec_DrawNetRun.f k l = some (n, ws, X) ∧ X.length ≤ 100 := by
  unfold spec_DrawNetRun.f
  obtain ⟨s, e0, o0⟩ := open_ok hl
  rw [e0, Option.bind_some]
  dsimp only
  obtain ⟨m, ws, a1, s1, e1, hw, o1⟩ := badNet_ok hl o0 (by omega) k (by omega)
  rw [e1, Option.bind_some]
  dsimp only
  obtain ⟨X, e, h⟩ := drawRun_l0 hl m ws 72 k [] a1 s1 _ o1 (by omega) (by simp) (by simp) (by omega)
  exact ⟨m, ws, X, e, h⟩
theorem sorted_l0 (l : List Int) (n : Nat) (hl : l.length = n) (hn : n ≤ 64) : ∀ (d k i : Nat), n - i = d → 1 ≤ i → i ≤ n → d < k → okTo l (i - 1) = true → laws_sorted.l0 k l (i : Int) = some (okTo l (n - 1)) := by
  intro d
  induction d with
  | zero =>
    intro k i hd h1 hi hk ho
    obtain ⟨k, rfl⟩ : ∃ m, k = m + 1 := ⟨k - 1, by omega⟩
    simp only [laws_sorted.l0]
    rw [if_neg (by omega), ← ho, show i = n by omega]
  | succ d ih =>
    intro k i hd h1 hi hk ho
    obtain ⟨k, rfl⟩ : ∃ m, k = m + 1 := ⟨k - 1, by omega⟩
    obtain ⟨j, rfl⟩ : ∃ j, i = j + 1 := ⟨i - 1, by omega⟩
    simp only [laws_sorted.l0]
    rw [show wrap64 (((j + 1 : Nat) : Int) - 1) = (j : Int) from by unfold wrap64; omega, if_pos (by omega), if_pos (by omega), if_pos (by omega), if_pos (by omega)]
    rw [Nat.add_sub_cancel] at ho
    by_cases c : rd l ((j + 1 : Nat) : Int) < rd l (j : Int)
    · rw [if_pos c]
      have : okTo l (n - 1) = false := by
        rw [Bool.eq_false_iff]
        intro h
        exact (okTo_iff l (n - 1)).1 h j (by omega) c
      rw [this]
    · rw [if_neg c, wr1 (j + 1) (by omega)]
      refine ih k (j + 1 + 1) (by omega) (by omega) (by omega) (by omega) ?_
      show okTo l (j + 1) = true
      unfold okTo
      rw [ho, decide_eq_false c]; rfl
theorem sorted_eq (l : List Int) (n : Nat) (hl : l.length = n) (h1 : 1 ≤ n) (hn : n ≤ 64) (k : Nat) (hk : n < k) : laws_sorted.f k l = some (okTo l (n - 1)) := by
  unfold laws_sorted.f
  exact sorted_l0 l n hl hn (n - 1) k 1 (by omega) (by omega) (by omega) (by omega) rfl
theorem implNetRun (n : Nat) (ws : List S55) (hb : netB (n : Int) ws = true) (l : List Int) (hl : l.length = n) : impl_NetRun.f (n : Int) ws l = some (runT ws l) := by
  obtain ⟨h1, h2, h3, h4⟩ := netB_in _ ws hb
  rw [Int.toNat_natCast] at h4
  unfold impl_NetRun.f
  rw [isNet_eq, Option.bind_some, if_pos hb, if_pos (by omega), implRun_eq _ ws l (by omega) (by rw [hl]; exact h4)]
  rfl
/-- The list before the first fault. -/
theorem down (n : Nat) (h1 : 1 ≤ n) (h12 : n ≤ 12) (ws : List S55) (hb : netB (n : Int) ws = true) (y : Nat) (hy0 : 0 < y) (hbefore : okTo (runT ws (bitsL n (y - 1))) (n - 1) = true) (hy : y < 2 ^ n) :
    ∀ (t k : Nat), t ≤ n → y / 2 ^ t * 2 ^ t = y → n - t + 40 < k → laws_FnZeroOne.l1 k (bitsL n (y + (2 ^ t - 1))) (((n : Int) - 1) - (t : Int)) (n : Int) ws = some true := by
  have main : ∀ (d t k : Nat), n - t = d → t ≤ n → y / 2 ^ t * 2 ^ t = y → n - t + 40 < k → laws_FnZeroOne.l1 k (bitsL n (y + (2 ^ t - 1))) (((n : Int) - 1) - (t : Int)) (n : Int) ws = some true := by
    intro d
    induction d with
    | zero =>
      intro t k hd ht hdiv hk
      exfalso
      have : t = n := by omega
      subst this
      rw [Nat.div_eq_of_lt hy] at hdiv
      omega
    | succ d ih =>
      intro t k hd ht hdiv hk
      obtain ⟨k, rfl⟩ : ∃ m, k = m + 1 := ⟨k - 1, by omega⟩
      obtain ⟨i, hi⟩ : ∃ i, i = n - 1 - t := ⟨_, rfl⟩
      have ei : ((n : Int) - 1) - (t : Int) = (i : Int) := by omega
      have eti : n - 1 - i = t := by omega
      have hin : i < n := by omega
      have hp := Nat.two_pow_pos t
      have hlen := bitsL_len n (y + (2 ^ t - 1))
      have hq : (y + (2 ^ t - 1)) / 2 ^ t = y / 2 ^ t := by
        refine Nat.div_eq_of_lt_le ?_ ?_
        · rw [hdiv]; omega
        · rw [Nat.succ_mul, hdiv]; omega
      have er : rd (bitsL n (y + (2 ^ t - 1))) (i : Int) = ((y / 2 ^ t % 2 : Nat) : Int) := by
        rw [rdD]
        have : (bitsL n (y + (2 ^ t - 1))).getD i 0 = (((y + (2 ^ t - 1)) / 2 ^ (n - 1 - i) % 2 : Nat) : Int) := by simp [bitsL, hin]
        rw [this, eti, hq]
      rw [ei]
      simp only [laws_FnZeroOne.l1]
      rw [if_pos (by omega), if_pos (by omega), if_pos (by omega), Option.bind_some, er, Int.toNat_natCast]
      have hb2 : y / 2 ^ t % 2 = 0 ∨ y / 2 ^ t % 2 = 1 := by omega
      rcases hb2 with hb2 | hb2
      · have es : (bitsL n (y + (2 ^ t - 1))).set i 1 = bitsL n (y + (2 ^ (t + 1) - 1)) := by
          rw [bits_set1 n _ i hin (by rw [eti, hq]; exact hb2), eti]
          congr 1
          rw [Nat.pow_succ]; omega
        rw [hb2, show wrap64 (1 - ((0 : Nat) : Int)) = 1 from by unfold wrap64; omega, es]
        have er2 : ¬ rd (bitsL n (y + (2 ^ (t + 1) - 1))) (i : Int) = 0 := by
          rw [← es, rdD]
          have : ((bitsL n (y + (2 ^ t - 1))).set i 1).getD i 0 = 1 := by simp [hlen, hin]
          rw [this]; decide
        rw [if_neg er2, show wrap64 ((i : Int) - 1) = ((n : Int) - 1) - ((t + 1 : Nat) : Int) from by unfold wrap64; omega]
        refine ih (t + 1) k (by omega) (by omega) ?_ (by omega)
        rw [Nat.pow_succ, ← Nat.div_div_eq_div_mul, ← Nat.mul_assoc, Nat.mul_right_comm]
        rw [show y / 2 ^ t / 2 * 2 = y / 2 ^ t by omega]
        exact hdiv
      · have hs := bits_set0 n (y + (2 ^ t - 1)) i hin (by rw [eti, hq]; exact hb2)
        rw [eti] at hs
        have es : (bitsL n (y + (2 ^ t - 1))).set i 0 = bitsL n (y - 1) := by
          rw [hs.2]
          congr 1
          omega
        rw [hb2, show wrap64 (1 - ((1 : Nat) : Int)) = 0 from by unfold wrap64; omega, es]
        have er2 : rd (bitsL n (y - 1)) (i : Int) = 0 := by
          rw [← es, rdD]
          simp [hlen, hin]
        rw [if_pos er2, implNetRun n ws hb _ (bitsL_len n _), Option.bind_some, sorted_eq _ n (by rw [runT_len, bitsL_len]) h1 (by omega) k (by omega), Option.bind_some, hbefore]
  intro t k ht hdiv hk
  exact main (n - t) t k rfl ht hdiv hk
theorem law_j2 (n : Nat) (h12 : n ≤ 12) (ws : List S55) (hb : netB (n : Int) ws = true) (X : List Int) (hX : X.length = n) (k : Nat) (hk : 100 < k) :
    laws_FnZeroOne.j2 k X (sortsR (n : Int) ws) (faultR (n : Int) ws) false (n : Int) ws = some true := by
  obtain ⟨h1, h2, h3, h4⟩ := netB_in _ ws hb
  rw [Int.toNat_natCast] at h4
  obtain ⟨k, rfl⟩ : ∃ m, k = m + 1 := ⟨k - 1, by omega⟩
  have hF : faultR (n : Int) ws = fs n ws (2 ^ n) 0 := by
    unfold faultR
    rw [if_pos ⟨hb, by omega⟩, Int.toNat_natCast]
  have hS : sortsR (n : Int) ws = decide (fs n ws (2 ^ n) 0 = []) := by
    unfold sortsR
    rw [hb, decide_eq_true (show (n : Int) ≤ 12 by omega), hF]
    rfl
  simp only [laws_FnZeroOne.j2]
  rw [if_neg (by decide), hS, hF]
  rcases fs_spec n (by omega) ws (2 ^ n) 0 with ⟨e, h⟩ | ⟨y, hy1, hy2, e, hy3, hy4⟩
  · rw [e, decide_eq_true rfl, if_pos rfl, implNetRun n ws hb X hX, Option.bind_some, sorted_eq _ n (by rw [runT_len]; exact hX) (by omega) (by omega) k (by omega), all_sorted n ws h4 (fun x hx => h x (by omega) (by omega)) X hX, Option.bind_some, if_pos rfl, Option.bind_some, runT_len, hX, beq_self_eq_true]
  · have hne : bitsL n y ≠ [] := by
      intro h0
      have := bitsL_len n y
      rw [h0] at this
      simp at this
      omega
    have hly := bitsL_len n y
    have hy0 : 0 < y := by
      rcases Nat.eq_zero_or_pos y with h0 | h0
      · subst h0
        rw [zeros_sorted n ws h4] at hy3
        cases hy3
      · exact h0
    rw [e, decide_eq_false hne, if_neg (by decide), Option.bind_some, if_pos (by simp; omega), List.nil_append, implNetRun n ws hb _ hly, Option.bind_some, if_pos (by rw [runT_len, hly]), sorted_eq _ n (by rw [runT_len, hly]) (by omega) (by omega) k (by omega), hy3, Option.bind_some]
    obtain ⟨k, rfl⟩ : ∃ m, k = m + 1 := ⟨k - 1, by omega⟩
    simp only [laws_FnZeroOne.j3]
    rw [if_neg (by decide), Option.bind_some, if_pos (by simp; omega), List.nil_append, show wrap64 ((n : Int) - 1) = ((n : Int) - 1) - ((0 : Nat) : Int) from by unfold wrap64; omega]
    have := down n (by omega) h12 ws hb y hy0 (hy4 (y - 1) (by omega) (by omega)) (by omega) 0 k (by omega) (by simp) (by omega)
    simpa using this
theorem law_l0 {l : List Int} (hl : Bytes l) (n : Nat) (h12 : n ≤ 12) (ws : List S55) (hb : netB (n : Int) ws = true) (hw : ws.length ≤ 2300) : ∃ K, ∀ (d k : Nat) (X : List Int), n - X.length = d → X.length ≤ 200 → d + K < k → laws_FnZeroOne.l0 k l X (n : Int) ws = some true := by
  obtain ⟨h1, h2, h3, h4⟩ := netB_in _ ws hb
  obtain ⟨K1, i1⟩ := iSorts (n : Int) ws
  obtain ⟨K2, i2⟩ := iFault (n : Int) ws
  obtain ⟨K3, i3⟩ := sSorts (n : Int) ws (by omega)
  refine ⟨K1 + K2 + K3 + 200, ?_⟩
  intro d
  induction d with
  | zero =>
    intro k X hd hX hk
    obtain ⟨k, rfl⟩ : ∃ m, k = m + 1 := ⟨k - 1, by omega⟩
    simp only [laws_FnZeroOne.l0]
    rw [if_neg (by omega), if_pos (by omega), if_pos (by omega), Option.bind_some, i1 k (by omega), Option.bind_some, i2 k (by omega), Option.bind_some, i3 k (by omega), Option.bind_some, bne_self_eq_false, if_neg (by decide), Int.toNat_natCast]
    have hflag : (sortsR (n : Int) ws != (((faultR (n : Int) ws).length : Int) == 0)) = false := by
      have hS : sortsR (n : Int) ws = decide (faultR (n : Int) ws = []) := by
        unfold sortsR
        rw [hb, decide_eq_true (show (n : Int) ≤ 12 by omega)]
        rfl
      rw [hS]
      cases faultR (n : Int) ws with
      | nil => rfl
      | cons a r =>
        rw [decide_eq_false (by simp), show (((a :: r).length : Int) == 0) = false from beq_eq_false_iff_ne.2 (by simp; omega)]
        rfl
    rw [hflag]
    exact law_j2 n h12 ws hb _ (by rw [List.length_take]; omega) k (by omega)
  | succ d ih =>
    intro k X hd hX hk
    obtain ⟨k, rfl⟩ : ∃ m, k = m + 1 := ⟨k - 1, by omega⟩
    obtain ⟨r, er⟩ := lawpick_ok hl (X.length : Int) 50 (by omega) k (by omega)
    simp only [laws_FnZeroOne.l0]
    rw [if_pos (by omega), er, Option.bind_some, if_pos (by omega)]
    exact ih k _ (by simp; omega) (by simp; omega) (by omega)
theorem FnZeroOne : laws_FnZeroOne.Pure := by
  intro l0 hl1 hl2 hb
  by_cases c : (l0.length : Int) > 1048576
  · refine ⟨0, ?_⟩
    unfold laws_FnZeroOne.f laws_big.f
    rw [Option.bind_some, if_pos (decide_eq_true c)]
  have hl : Bytes l0 := bytes_of (by omega) hb
  obtain ⟨n, ws, e1, hw⟩ := drawSorts_ok hl 3000 (by omega)
  obtain ⟨n', ws', X, e2, hX⟩ := drawRun_ok hl 3000 (by omega)
  obtain ⟨K1, i1⟩ := iSorts n ws
  obtain ⟨K2, i2⟩ := iFault n ws
  have bad : ∀ k, K1 + K2 < k → ¬ (netB n ws = true ∧ n ≤ 12) → laws_FnZeroOne.j0 k l0 X true n ws = some true := by
    intro k hk hc
    obtain ⟨k, rfl⟩ : ∃ m, k = m + 1 := ⟨k - 1, by omega⟩
    have hF : faultR n ws = [] := by unfold faultR; rw [if_neg hc]
    have hS : sortsR n ws = false := by
      unfold sortsR
      cases h : netB n ws with
      | false => rfl
      | true => rw [decide_eq_false (fun h2 => hc ⟨h, h2⟩)]; rfl
    simp only [laws_FnZeroOne.j0]
    rw [if_pos trivial, i1 k (by omega), hS, Option.bind_some, if_neg (by decide), i2 k (by omega), hF, Option.bind_some]
    rfl
  obtain ⟨K3, good⟩ : ∃ K3, (netB n ws = true ∧ n ≤ 12) → ∀ k, K3 < k → laws_FnZeroOne.j0 k l0 X false n ws = some true := by
    by_cases hc : netB n ws = true ∧ n ≤ 12
    · obtain ⟨h1, _⟩ := netB_in n ws hc.1
      obtain ⟨m, rfl⟩ := Int.eq_ofNat_of_zero_le (show 0 ≤ n by omega)
      obtain ⟨K, h⟩ := law_l0 hl m (by omega) ws hc.1 hw
      refine ⟨m + K + 2, fun _ k hk => ?_⟩
      obtain ⟨k, rfl⟩ : ∃ m, k = m + 1 := ⟨k - 1, by omega⟩
      simp only [laws_FnZeroOne.j0]
      rw [if_neg (by decide)]
      exact h (m - X.length) k X rfl (by omega) (by omega)
    · exact ⟨0, fun h => absurd h hc⟩
  obtain ⟨K, hK⟩ : ∃ K, K = 3000 + (K1 + K2 + K3 + 1) := ⟨_, rfl⟩
  have m1 : spec_DrawNetSorts.f K l0 = some (n, ws) := by rw [hK]; exact leo_up (fun k => spec_DrawNetSorts.f k l0) (fun k => spec_DrawNetSorts.mono _ k) 3000 _ e1 _
  have m2 : spec_DrawNetRun.f K l0 = some (n', ws', X) := by rw [hK]; exact leo_up (fun k => spec_DrawNetRun.f k l0) (fun k => spec_DrawNetRun.mono _ k) 3000 _ e2 _
  refine ⟨K, ?_⟩
  unfold laws_FnZeroOne.f laws_big.f
  rw [Option.bind_some, if_neg (by simpa using c), m1, Option.bind_some]
  dsimp only
  rw [m2, Option.bind_some]
  dsimp only
  rw [netOk_eq n ws (by omega) K (by omega), Option.bind_some]
  by_cases h1 : netB n ws = true
  · rw [if_pos h1]
    by_cases h2 : n ≤ 12
    · rw [decide_eq_false (by omega)]
      exact good ⟨h1, h2⟩ K (by omega)
    · rw [decide_eq_true (by omega)]
      exact bad K (by omega) (fun h => h2 h.2)
  · rw [if_neg h1]
    exact bad K (by omega) (fun h => h1 h.1)

end Go.Proofs.Ytekfpjblakindaa.Pure

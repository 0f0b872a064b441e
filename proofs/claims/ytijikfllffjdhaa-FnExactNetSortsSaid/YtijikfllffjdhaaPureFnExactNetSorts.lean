/- NetSorts answers as the reference -/
import Derived.Test.YtijikfllffjdhaaOpenFnExactNetSorts
namespace Go.Proofs.Ytijikfllffjdhaa.Pure
open Go.RowKit Go.Proofs.Ytijikfllffjdhaa.OpenFnExactNetSorts Go.Proofs.Ytijikfllffjdhaa.RowOpen Go.Proofs.Ytijikfllffjdhaa.PFnExactNetSorts Go.Proofs.YtijikfllffjdhaaW.PrintWords Go.Proofs.YtijikfllffjdhaaW.PrintLast Go.Proofs.YtijikfllffjdhaaW.PrintMore
set_option linter.unusedVariables false
set_option linter.unusedSimpArgs false

theorem wr1 (i : Nat) (h : i ≤ 4000000) : wrap64 ((i : Int) + 1) = ((i + 1 : Nat) : Int) := by unfold wrap64; omega
theorem rd60 (l : List S60) (i : Nat) (h : i < l.length) : rd_T60 l (i : Int) = l[i] := by simp [rd_T60, h]
theorem eqWireS_l0 (a : List S60) (ha : a.length ≤ 1048576) : ∀ (d k i : Nat), i ≤ a.length → a.length - i = d → d < k → laws_eqWireS.l0 k a a (i : Int) = some true := by
  intro d
  induction d with
  | zero =>
    intro k i hi hd hk
    obtain ⟨k, rfl⟩ : ∃ m, k = m + 1 := ⟨k - 1, by omega⟩
    simp only [laws_eqWireS.l0]
    rw [if_neg (by omega)]
  | succ d ih =>
    intro k i hi hd hk
    obtain ⟨k, rfl⟩ : ∃ m, k = m + 1 := ⟨k - 1, by omega⟩
    simp only [laws_eqWireS.l0]
    rw [if_pos (by omega), if_pos (by omega), if_pos (by omega)]
    unfold laws_eqWire.f
    rw [if_pos rfl, if_pos rfl]
    simp only [Option.bind_some, if_true]
    rw [wr1 i (by omega)]
    exact ih k (i + 1) (by omega) (by omega) (by omega)
theorem eqNet_eq (n : Int) (a : List S60) (ha : a.length ≤ 1048576) (k : Nat) (hk : a.length < k) : laws_eqNet.f k n a n a = some true := by
  unfold laws_eqNet.f laws_eqWireS.f
  rw [if_pos rfl, if_pos rfl]
  have := eqWireS_l0 a ha a.length k 0 (by omega) (by omega) hk
  rw [show ((0 : Nat) : Int) = 0 from rfl] at this
  rw [this]; rfl
def cvW (x : S73) : S60 := ⟨x.f0, x.f1⟩
theorem rd73 (l : List S73) (i : Nat) (h : i < l.length) : rd_T73 l (i : Int) = l[i] := by simp [rd_T73, h]
theorem szNet_eq (n : Int) (l : List S73) (h : l.length ≤ maxLen) (left : Int) (h0 : 0 ≤ left) (h1 : left ≤ 1048576) : laws_szNet.f n l left = some (if left < (l.length : Int) then -1 else left - (l.length : Int)) := by
  unfold maxLen at h
  unfold laws_szNet.f laws_szWireS.f
  rw [show wrap64 (left - (l.length : Int)) = left - (l.length : Int) from by unfold wrap64; omega]
  by_cases c : left < (l.length : Int)
  · rw [if_pos c, if_pos (by omega)]; rfl
  · rw [if_neg c, if_neg (by omega)]
    simp only [Option.bind_some]
    rw [if_neg (by omega)]
theorem take_setW (x : List S60) (l : List S73) (i : Nat) (hi : i < l.length) (hx : x.length = l.length) (h : x.take i = (l.map cvW).take i) : (x.set i (cvW l[i])).take (i + 1) = (l.map cvW).take (i + 1) := by
  rw [List.take_add_one, List.take_add_one, List.take_set_of_le (Nat.le_refl _), h]
  simp [hi, hx]
theorem toWireS_l0 (l : List S73) (hl : l.length ≤ 1048576) : ∀ (d k i : Nat) (x : List S60), x.length = l.length → i ≤ l.length → l.length - i = d → d < k → x.take i = (l.map cvW).take i →
    laws_toWireS.l0 k l x (i : Int) = some (l.map cvW) := by
  intro d
  induction d with
  | zero =>
    intro k i x hx hi hd hk h
    obtain ⟨k, rfl⟩ : ∃ m, k = m + 1 := ⟨k - 1, by omega⟩
    simp only [laws_toWireS.l0]
    rw [if_neg (by omega)]
    rw [List.take_of_length_le (by omega), List.take_of_length_le (by simp; omega)] at h
    rw [h]
  | succ d ih =>
    intro k i x hx hi hd hk h
    obtain ⟨k, rfl⟩ : ∃ m, k = m + 1 := ⟨k - 1, by omega⟩
    have hlt : i < l.length := by omega
    simp only [laws_toWireS.l0]
    rw [if_pos (by omega), if_pos (by omega), rd73 l i hlt]
    unfold laws_toWire.f
    simp only [Option.bind_some]
    rw [if_pos (by omega), wr1 i (by omega), Int.toNat_natCast]
    exact ih k (i + 1) _ (by simp [hx]) (by omega) (by omega) (by omega) (take_setW x l i hlt hx h)
theorem toNet_eq (n : Int) (l : List S73) (hl : l.length ≤ 1048576) (k : Nat) (hk : l.length < k) : laws_toNet.f k n l = some (n, l.map cvW) := by
  unfold laws_toNet.f laws_toWireS.f
  rw [if_pos (by omega), if_pos (by omega)]
  have := toWireS_l0 l hl l.length k 0 (List.replicate (l.length : Int).toNat z60) (by simp) (by omega) (by omega) hk rfl
  rw [show ((0 : Nat) : Int) = 0 from rfl] at this
  rw [this]; rfl
/-- Is it a net? -/
def netB (n : Int) (l : List S60) : Bool := decide (1 ≤ n ∧ n ≤ 64) && (decide (l.length ≤ 2100) && !(l.any (badW n)))
theorem netOk_l0 (n : Int) (l : List S60) (hl : l.length ≤ 1048576) : ∀ (d k i : Nat), i ≤ l.length → l.length - i = d → d < k → spec_NetOk.l0 k (i : Int) n l = some (!((l.drop i).any (badW n))) := by
  intro d
  induction d with
  | zero =>
    intro k i hi hd hk
    obtain ⟨k, rfl⟩ : ∃ m, k = m + 1 := ⟨k - 1, by omega⟩
    simp only [spec_NetOk.l0]
    rw [if_neg (by omega), List.drop_eq_nil_of_le (by omega)]; rfl
  | succ d ih =>
    intro k i hi hd hk
    obtain ⟨k, rfl⟩ : ∃ m, k = m + 1 := ⟨k - 1, by omega⟩
    have hlt : i < l.length := by omega
    simp only [spec_NetOk.l0]
    rw [if_pos (by omega), if_pos (by omega), rd60 l i hlt, wr1 i (by omega), ih k (i + 1) (by omega) (by omega) (by omega), List.drop_eq_getElem_cons hlt, List.any_cons]
    have e : badW n l[i] = (decide ((l[i]).f0 < 0) || (decide ((l[i]).f1 ≤ (l[i]).f0) || decide (n ≤ (l[i]).f1))) := rfl
    rw [e]
    by_cases c1 : (l[i]).f0 < 0
    · rw [if_pos c1, decide_eq_true c1]; rfl
    · rw [if_neg c1, decide_eq_false c1]
      by_cases c2 : (l[i]).f1 ≤ (l[i]).f0
      · rw [if_pos c2, decide_eq_true c2]; rfl
      · rw [if_neg c2, decide_eq_false c2]
        by_cases c3 : (l[i]).f1 ≥ n
        · rw [if_pos c3, decide_eq_true (show n ≤ (l[i]).f1 from c3)]; rfl
        · rw [if_neg c3, decide_eq_false (show ¬ n ≤ (l[i]).f1 from c3)]; rfl
theorem netOk_eq (n : Int) (l : List S60) (hl : l.length ≤ 1048576) (k : Nat) (hk : l.length + 1 < k) : spec_NetOk.f k n l = some (netB n l) := by
  obtain ⟨k, rfl⟩ : ∃ m, k = m + 1 := ⟨k - 1, by omega⟩
  unfold spec_NetOk.f netB
  by_cases c1 : n < 1
  · rw [if_pos c1, decide_eq_false (by omega)]
    simp [spec_NetOk.j0]
  · rw [if_neg c1]
    by_cases c2 : n > 64
    · rw [if_pos c2, decide_eq_false (show ¬ (1 ≤ n ∧ n ≤ 64) from by omega)]
      simp [spec_NetOk.j0]
    · rw [if_neg c2, decide_eq_true (show 1 ≤ n ∧ n ≤ 64 from by omega)]
      by_cases c3 : (l.length : Int) > 2100
      · rw [decide_eq_true c3, decide_eq_false (show ¬ l.length ≤ 2100 from by omega)]
        simp [spec_NetOk.j0]
      · rw [decide_eq_false c3, decide_eq_true (show l.length ≤ 2100 from by omega)]
        simp only [spec_NetOk.j0]
        have := netOk_l0 n l hl l.length k 0 (by omega) (by omega) (by omega)
        rw [show ((0 : Nat) : Int) = 0 from rfl] at this
        rw [if_neg (by decide), this]
        simp
theorem isNet_eq (n : Int) (l : List S60) : impl_isNet.f n l = some (netB n l) := rfl
def swapT (x : S60) (l : List Int) : List Int := if rd l x.f1 < rd l x.f0 then (l.set x.f0.toNat (rd l x.f1)).set x.f1.toNat (rd l x.f0) else l
def runT : List S60 → List Int → List Int
  | [], l => l
  | x :: ws, l => runT ws (swapT x l)
theorem swapT_len (x : S60) (l : List Int) : (swapT x l).length = l.length := by unfold swapT; split <;> simp
theorem runT_len : ∀ (ws : List S60) (l : List Int), (runT ws l).length = l.length
  | [], l => rfl
  | x :: ws, l => by unfold runT; rw [runT_len ws, swapT_len]
def inW (n : Nat) (ws : List S60) : Prop := ∀ x, x ∈ ws → 0 ≤ x.f0 ∧ x.f0 < x.f1 ∧ x.f1 < (n : Int)
theorem netB_in (n : Int) (ws : List S60) (h : netB n ws = true) : 1 ≤ n ∧ n ≤ 64 ∧ ws.length ≤ 2100 ∧ inW n.toNat ws := by
  simp only [netB, Bool.and_eq_true, decide_eq_true_eq, Bool.not_eq_true', List.any_eq_false] at h
  obtain ⟨⟨h1, h2⟩, h3, h4⟩ := h
  refine ⟨h1, h2, h3, fun x hx => ?_⟩
  have := h4 x hx
  simp [badW] at this
  omega
theorem runL_eq : ∀ (ws : List S60) (l : List Int), inW l.length ws → runL ws l = some (runT ws l)
  | [], l, _ => rfl
  | x :: ws, l, h => by
    have hx := h x (by simp)
    have e : swapL x l = some (swapT x l) := by
      unfold swapL swapT
      rw [if_pos ⟨by omega, by omega, by omega, by omega⟩]
      split <;> rfl
    unfold runL runT
    rw [e]
    simp only [Option.bind_some]
    exact runL_eq ws _ (by rw [swapT_len]; exact fun y hy => h y (by simp [hy]))
theorem set_self (l : List Int) (i : Nat) (hi : i < l.length) : l.set i (rd l (i : Int)) = l := by
  simp [rd, hi]
theorem swap_mm (x : S60) (l : List Int) (h0 : 0 ≤ x.f0) (h1 : x.f0 < x.f1) (h2 : x.f1 < (l.length : Int)) : (l.set x.f0.toNat (mn (rd l x.f0) (rd l x.f1))).set x.f1.toNat (mx (rd l x.f0) (rd l x.f1)) = swapT x l := by
  unfold swapT mn mx
  by_cases c : rd l x.f1 < rd l x.f0
  · rw [if_pos c, if_pos c, if_neg (by omega)]
  · rw [if_neg c, if_neg c]
    obtain ⟨i, hi⟩ := Int.eq_ofNat_of_zero_le h0
    obtain ⟨j, hj⟩ := Int.eq_ofNat_of_zero_le (show 0 ≤ x.f1 by omega)
    rw [hi, hj] at c ⊢
    simp only [Int.toNat_natCast]
    rw [set_self l i (by omega)]
    have : (if rd l (i : Int) < rd l (j : Int) then rd l (j : Int) else rd l (i : Int)) = rd l (j : Int) := by
      split
      · rfl
      · omega
    rw [this]
    exact set_self l j (by omega)
theorem specRun_l0 (n : Int) (ws : List S60) (hw : ws.length ≤ 1048576) : ∀ (d k i : Nat) (l : List Int), inW l.length ws → i ≤ ws.length → ws.length - i = d → d < k → spec_l08Run.l0 k l (i : Int) n ws = some (runT (ws.drop i) l) := by
  intro d
  induction d with
  | zero =>
    intro k i l hin hi hd hk
    obtain ⟨k, rfl⟩ : ∃ m, k = m + 1 := ⟨k - 1, by omega⟩
    simp only [spec_l08Run.l0]
    rw [if_neg (by omega), List.drop_eq_nil_of_le (by omega)]; rfl
  | succ d ih =>
    intro k i l hin hi hd hk
    obtain ⟨k, rfl⟩ : ∃ m, k = m + 1 := ⟨k - 1, by omega⟩
    have hlt : i < ws.length := by omega
    have hx := hin ws[i] (by simp)
    simp only [spec_l08Run.l0]
    rw [rd60 ws i hlt, if_pos (by omega), if_pos (by omega), if_pos (by omega), if_pos (by omega), if_pos (by omega), if_pos (by omega), swap_mm _ _ hx.1 hx.2.1 hx.2.2, wr1 i (by omega), ih k (i + 1) _ (by rw [swapT_len]; exact hin) (by omega) (by omega) (by omega), List.drop_eq_getElem_cons hlt]
    rfl
theorem specRun_eq (n : Int) (ws : List S60) (l : List Int) (hw : ws.length ≤ 2100) (hl : l.length ≤ 1048576) (hin : inW l.length ws) (k : Nat) (hk : ws.length < k) : spec_l08Run.f k n ws l = some (runT ws l) := by
  unfold spec_l08Run.f
  simp only [Option.bind_some]
  rw [if_pos (by simp; omega)]
  have := specRun_l0 n ws (by omega) ws.length k 0 l hin (by omega) (by omega) hk
  simpa using this
theorem implRun_eq (n : Int) (ws : List S60) (l : List Int) (hl : l.length ≤ 1048576) (hin : inW l.length ws) : impl_netRun.f n ws l = some (runT ws l) := by
  unfold impl_netRun.f
  rw [if_pos (by omega)]
  exact runL_eq ws l hin
theorem and1 (y : Nat) (h : y < 4294967296) : Go.bits .and .i64 (y : Int) 1 = ((y % 2 : Nat) : Int) := by
  have h1 : (BitVec.ofInt 64 (y : Int)).toNat = y := by
    rw [BitVec.ofInt_natCast, BitVec.toNat_ofNat]; exact Nat.mod_eq_of_lt (by omega)
  have h2 : (BitVec.ofInt 64 (1 : Int)).toNat = 1 := by decide
  show IntKind.i64.wrap ((BitVec.ofInt 64 (y : Int) &&& BitVec.ofInt 64 (1 : Int)).toNat : Int) = _
  rw [BitVec.toNat_and, h1, h2, Nat.and_one_is_mod, IntKind.wrap_i64]
  omega
/-- The lane's bit of a number's list. -/
def bitsL (n x : Nat) : List Int := (List.range n).map fun (i : Nat) => ((x / 2 ^ (n - 1 - i) % 2 : Nat) : Int)
theorem bitsL_len (n x : Nat) : (bitsL n x).length = n := by simp [bitsL]
theorem bitsL_step (n x : Nat) (l : List Int) (i : Nat) (hi : i < n) (hl : l.length = n) (h : l.take i = (bitsL n x).take i) : (l.set i ((x / 2 ^ (n - 1 - i) % 2 : Nat) : Int)).take (i + 1) = (bitsL n x).take (i + 1) := by
  rw [List.take_add_one, List.take_add_one, List.take_set_of_le (Nat.le_refl _), h]
  simp [hi, hl, bitsL]
theorem bitsL_down (n x : Nat) (l : List Int) (i : Nat) (hi : i < n) (hl : l.length = n) (h : l.drop (i + 1) = (bitsL n x).drop (i + 1)) : (l.set i ((x / 2 ^ (n - 1 - i) % 2 : Nat) : Int)).drop i = (bitsL n x).drop i := by
  rw [List.drop_eq_getElem_cons (l := l.set i _) (i := i) (by simp; omega), List.drop_eq_getElem_cons (l := bitsL n x) (i := i) (by rw [bitsL_len]; omega), List.drop_set_of_lt (by omega), h]
  simp [bitsL]
/-- Every neighbour pair up to i is in order. -/
def okTo (l : List Int) : Nat → Bool
  | 0 => true
  | i + 1 => !(decide (rd l ((i + 1 : Nat) : Int) < rd l (i : Int))) && okTo l i
theorem okTo_iff (l : List Int) : ∀ i, okTo l i = true ↔ ∀ j, j < i → ¬ rd l ((j + 1 : Nat) : Int) < rd l (j : Int)
  | 0 => by simp [okTo]
  | i + 1 => by
    unfold okTo
    rw [Bool.and_eq_true, okTo_iff l i]
    simp only [Bool.not_eq_true', decide_eq_false_iff_not]
    constructor
    · rintro ⟨h1, h2⟩ j hj
      by_cases e : j = i
      · subst e; exact h1
      · exact h2 j (by omega)
    · intro h
      exact ⟨h i (by omega), fun j hj => h j (by omega)⟩
theorem less_eq (a b : Int) : cmp_Less_int.f a b = some (decide (a < b)) := by simp [cmp_Less_int.f, cmp_isNaN_int.f]
theorem isSorted_l0 (l : List Int) (hl : l.length ≤ 64) : ∀ (i k : Nat), i < l.length → i < k → slices_IsSorted_int_int.l0 k l (i : Int) = some (okTo l i)
  | 0, k, hi, hk => by
    obtain ⟨k, rfl⟩ : ∃ m, k = m + 1 := ⟨k - 1, by omega⟩
    simp [slices_IsSorted_int_int.l0, okTo]
  | i + 1, k, hi, hk => by
    obtain ⟨k, rfl⟩ : ∃ m, k = m + 1 := ⟨k - 1, by omega⟩
    simp only [slices_IsSorted_int_int.l0]
    have e : wrap64 (((i + 1 : Nat) : Int) - 1) = (i : Int) := by unfold wrap64; omega
    rw [e, if_pos (by omega), if_pos (by omega), if_pos (by omega), if_pos (by omega), if_pos (by omega)]
    rw [less_eq]
    simp only [Option.bind_some]
    unfold okTo
    by_cases c : rd l ((i + 1 : Nat) : Int) < rd l (i : Int)
    · rw [decide_eq_true c, if_pos rfl]; rfl
    · rw [decide_eq_false c, if_neg (by decide), isSorted_l0 l hl i k (by omega) (by omega)]; rfl
theorem isSorted_eq (l : List Int) (hl : l.length ≤ 64) (h1 : 1 ≤ l.length) (k : Nat) (hk : l.length ≤ k) : slices_IsSorted_int_int.f k l = some (okTo l (l.length - 1)) := by
  unfold slices_IsSorted_int_int.f
  rw [show wrap64 ((l.length : Int) - 1) = ((l.length - 1 : Nat) : Int) from by unfold wrap64; omega]
  exact isSorted_l0 l hl _ k (by omega) (by omega)
/-- The first of d lists from x on that the net does not sort. -/
def fs (n : Nat) (ws : List S60) : Nat → Nat → List Int
  | 0, _ => []
  | d + 1, x => if okTo (runT ws (bitsL n x)) (n - 1) = true then fs n ws d (x + 1) else bitsL n x
theorem fs_len (n : Nat) (ws : List S60) : ∀ d x, (fs n ws d x).length ≤ n
  | 0, _ => by simp [fs]
  | d + 1, x => by
    unfold fs
    split
    · exact fs_len n ws d (x + 1)
    · rw [bitsL_len]; omega
def Ev (P : Nat → Prop) : Prop := ∃ K, ∀ k, K ≤ k → P k
theorem Ev.up {P Q : Nat → Prop} (h : Ev P) (f : ∀ k, P k → Q (k + 1)) : Ev Q := by
  obtain ⟨K, h⟩ := h
  exact ⟨K + 1, fun k hk => by
    obtain ⟨m, rfl⟩ : ∃ m, k = m + 1 := ⟨k - 1, by omega⟩
    exact f m (h m (by omega))⟩
theorem Ev.and {P Q : Nat → Prop} (h : Ev P) (h' : Ev Q) : Ev fun k => P k ∧ Q k := by
  obtain ⟨K, h⟩ := h
  obtain ⟨K', h'⟩ := h'
  exact ⟨K + K', fun k hk => ⟨h k (by omega), h' k (by omega)⟩⟩
theorem Ev.imp {P Q : Nat → Prop} (h : Ev P) (f : ∀ k, P k → Q k) : Ev Q := by
  obtain ⟨K, h⟩ := h
  exact ⟨K, fun k hk => f k (h k hk)⟩
theorem Ev.from {P : Nat → Prop} (K : Nat) (h : ∀ k, K ≤ k → P k) : Ev P := ⟨K, h⟩
theorem shr_nat (x y : Nat) (h : y ≤ 64) : shr .i64 (x : Int) (y : Int) = ((x / 2 ^ y : Nat) : Int) := by
  unfold shr
  rw [Int.toNat_natCast, show min y IntKind.i64.bits = y from Nat.min_eq_left h]
  rw [Int.natCast_ediv, Int.natCast_pow]; rfl
theorem i_l1 (n : Nat) (hn : n ≤ 12) (ws : List S60) (pw : Int) (x : Nat) (hx : x < 4096) (r : List Int)
    (tail : Ev fun k => ((impl_netRun.f (n : Int) ws (bitsL n x)).bind fun t174 => ((slices_IsSorted_int_int.f k t174).bind fun t177 => (if t177 = true then (impl_netFault.l0 k (bitsL n x) pw (wrap64 ((x : Int) + 1)) (n : Int) ws) else (some (bitsL n x))))) = some r) :
    ∀ (d i : Nat) (l : List Int), l.length = n → i ≤ n → n - i = d → l.take i = (bitsL n x).take i → Ev fun k => impl_netFault.l1 k l (x : Int) pw (x : Int) (n : Int) (i : Int) (n : Int) ws = some r := by
  intro d
  induction d with
  | zero =>
    intro i l hl hi hd h
    rw [List.take_of_length_le (by omega), List.take_of_length_le (by rw [bitsL_len]; omega)] at h
    subst h
    refine tail.up fun k hk => ?_
    simp only [impl_netFault.l1]
    rw [if_neg (by omega)]
    exact hk
  | succ d ih =>
    intro i l hl hi hd h
    have hlt : i < n := by omega
    refine (ih (i + 1) (l.set i ((x / 2 ^ (n - 1 - i) % 2 : Nat) : Int)) (by simpa using hl) (by omega) (by omega) (bitsL_step n x l i hlt hl h)).up fun k hk => ?_
    simp only [impl_netFault.l1]
    have e1 : wrap64 (wrap64 ((n : Int) - 1) - (i : Int)) = ((n - 1 - i : Nat) : Int) := by unfold wrap64; omega
    have hle : x / 2 ^ (n - 1 - i) < 4294967296 := Nat.lt_of_le_of_lt (Nat.div_le_self _ _) (by omega)
    rw [if_pos (by omega), e1, if_pos (by omega), if_pos (by omega), if_pos (by omega), shr_nat x (n - 1 - i) (by omega), and1 _ hle, Int.toNat_natCast, wr1 i (by omega)]
    exact hk
theorem i_l0 (n : Nat) (h1 : 1 ≤ n) (hn : n ≤ 12) (ws : List S60) (hin : inW n ws) : ∀ (d x : Nat) (l : List Int), l.length = n → x + d = 2 ^ n → Ev fun k => impl_netFault.l0 k l ((2 ^ n : Nat) : Int) (x : Int) (n : Int) ws = some (fs n ws d x) := by
  have hp : 2 ^ n ≤ 4096 := Nat.le_trans (Nat.pow_le_pow_right (by omega) hn) (by decide)
  intro d
  induction d with
  | zero =>
    intro x l hl hx
    refine Ev.from 1 fun k hk => ?_
    obtain ⟨k, rfl⟩ : ∃ m, k = m + 1 := ⟨k - 1, by omega⟩
    simp only [impl_netFault.l0]
    rw [if_neg (by omega)]; rfl
  | succ d ih =>
    intro x l hl hx
    refine (i_l1 n hn ws ((2 ^ n : Nat) : Int) x (by omega) (fs n ws (d + 1) x) ?_ n 0 l hl (by omega) (by omega) rfl).up fun k hk => ?_
    · refine ((ih (x + 1) (bitsL n x) (bitsL_len n x) (by omega)).and (Ev.from (P := fun k => n ≤ k) n fun k hk => hk)).imp fun k hk => ?_
      obtain ⟨hk1, hk2⟩ := hk
      have hL : (bitsL n x).length = n := bitsL_len n x
      have hR : (runT ws (bitsL n x)).length = n := by rw [runT_len, hL]
      rw [implRun_eq _ ws _ (by omega) (by rw [hL]; exact hin)]
      simp only [Option.bind_some]
      rw [isSorted_eq _ (by omega) (by omega) k (by omega), hR]
      simp only [Option.bind_some]
      unfold fs
      split
      · rw [wr1 x (by omega)]; exact hk1
      · rfl
    · simp only [impl_netFault.l0]
      rw [if_pos (by omega), hl]
      exact hk
theorem pow_l0 : ∀ (n k : Nat) (r : Nat), n ≤ 12 → n < k → r * 2 ^ n ≤ 4096 → spec_l02Pow.l0 k (n : Int) (r : Int) = some ((r * 2 ^ n : Nat) : Int)
  | 0, k, r, _, hk, _ => by
    obtain ⟨k, rfl⟩ : ∃ m, k = m + 1 := ⟨k - 1, by omega⟩
    simp [spec_l02Pow.l0]
  | n + 1, k, r, hn, hk, h => by
    obtain ⟨k, rfl⟩ : ∃ m, k = m + 1 := ⟨k - 1, by omega⟩
    have e : r * 2 ^ (n + 1) = 2 * r * 2 ^ n := by rw [Nat.pow_succ]; rw [Nat.mul_comm 2 r, Nat.mul_assoc, Nat.mul_comm 2 (2 ^ n)]
    have hle : 2 * r ≤ 4096 := Nat.le_trans (Nat.le_mul_of_pos_right _ (Nat.two_pow_pos n)) (by rw [← e]; exact h)
    simp only [spec_l02Pow.l0]
    rw [if_pos (by omega), show wrap64 (((n + 1 : Nat) : Int) - 1) = (n : Int) from by unfold wrap64; omega, show wrap64 (2 * (r : Int)) = ((2 * r : Nat) : Int) from by unfold wrap64; omega, e]
    exact pow_l0 n k (2 * r) (by omega) (by omega) (by rw [← e]; exact h)
theorem pow_eq (n : Nat) (hn : n ≤ 12) (k : Nat) (hk : n < k) : spec_l02Pow.f k (n : Int) = some ((2 ^ n : Nat) : Int) := by
  have hp : 2 ^ n ≤ 4096 := Nat.le_trans (Nat.pow_le_pow_right (by omega) hn) (by decide)
  unfold spec_l02Pow.f
  have := pow_l0 n k 1 hn hk (by omega)
  simpa using this
theorem s_l2 (n : Nat) (h1 : 1 ≤ n) (hn : n ≤ 12) (ws : List S60) (x : Nat) (hx : x < 4096) (L t r : List Int) (ht : t.length = n) (tail : Ev fun k => spec_NetFault.l0 k ((x + 1 : Nat) : Int) (n : Int) ws = some r) :
    ∀ (d i : Nat), 1 ≤ i → i ≤ n → n - i = d → okTo t (i - 1) = true → Ev fun k => spec_NetFault.l2 k (x : Int) L t (i : Int) (n : Int) ws = some (if okTo t (n - 1) = true then r else L) := by
  intro d
  induction d with
  | zero =>
    intro i hi1 hi hd h
    have e : i = n := by omega
    subst e
    rw [if_pos h]
    refine tail.up fun k hk => ?_
    simp only [spec_NetFault.l2]
    rw [if_neg (by omega), wr1 x (by omega)]
    exact hk
  | succ d ih =>
    intro i hi1 hi hd h
    obtain ⟨i, rfl⟩ : ∃ m, i = m + 1 := ⟨i - 1, by omega⟩
    have e1 : wrap64 (((i + 1 : Nat) : Int) - 1) = (i : Int) := by unfold wrap64; omega
    by_cases c : rd t ((i + 1 : Nat) : Int) < rd t (i : Int)
    · have hno : ¬ okTo t (n - 1) = true := fun hh => (okTo_iff t (n - 1)).1 hh i (by omega) c
      rw [if_neg hno]
      refine Ev.from 1 fun k hk => ?_
      obtain ⟨k, rfl⟩ : ∃ m, k = m + 1 := ⟨k - 1, by omega⟩
      simp only [spec_NetFault.l2]
      rw [e1, if_pos (by omega), if_pos (by omega), if_pos (by omega), if_pos (by omega), if_pos (by omega), if_pos c]
    · refine (ih (i + 1 + 1) (by omega) (by omega) (by omega) ?_).up fun k hk => ?_
      · show okTo t (i + 1) = true
        unfold okTo
        rw [decide_eq_false c]
        exact h
      · simp only [spec_NetFault.l2]
        rw [e1, if_pos (by omega), if_pos (by omega), if_pos (by omega), if_pos (by omega), if_pos (by omega), if_neg c, wr1 (i + 1) (by omega)]
        exact hk
theorem s_l1 (n : Nat) (hn : n ≤ 12) (ws : List S60) (x : Nat) (hx : x < 4096) (r : List Int)
    (tail : Ev fun k => ((spec_l08Run.f k (n : Int) ws (bitsL n x)).bind fun t => (spec_NetFault.l2 k (x : Int) (bitsL n x) t 1 (n : Int) ws)) = some r) :
    ∀ (j : Nat) (l : List Int), l.length = n → j ≤ n → l.drop j = (bitsL n x).drop j → Ev fun k => spec_NetFault.l1 k (x : Int) l ((x / 2 ^ (n - j) : Nat) : Int) ((j : Int) - 1) (n : Int) ws = some r := by
  intro j
  induction j with
  | zero =>
    intro l hl hj h
    rw [List.drop_zero, List.drop_zero] at h
    subst h
    refine tail.up fun k hk => ?_
    simp only [spec_NetFault.l1]
    rw [if_neg (by omega)]
    exact hk
  | succ j ih =>
    intro l hl hj h
    have e0 : n - 1 - j = n - (j + 1) := by omega
    have hs := bitsL_down n x l j (by omega) hl h
    rw [e0] at hs
    refine (ih (l.set j ((x / 2 ^ (n - (j + 1)) % 2 : Nat) : Int)) (by simpa using hl) (by omega) hs).up fun k hk => ?_
    simp only [spec_NetFault.l1]
    have hle : x / 2 ^ (n - (j + 1)) ≤ x := Nat.div_le_self _ _
    have e1 : ((j + 1 : Nat) : Int) - 1 = (j : Int) := by omega
    have e2 : x / 2 ^ (n - j) = x / 2 ^ (n - (j + 1)) / 2 := by rw [show n - j = (n - (j + 1)) + 1 from by omega, Nat.pow_succ, Nat.div_div_eq_div_mul]
    rw [e1, if_pos (by omega), if_pos (by omega), if_pos (by omega), Int.toNat_natCast]
    rw [e2] at hk
    generalize x / 2 ^ (n - (j + 1)) = y at hk hle ⊢
    rw [show Int.tmod (y : Int) 2 = ((y % 2 : Nat) : Int) from rfl, show Int.tdiv (y : Int) 2 = ((y / 2 : Nat) : Int) from rfl, show wrap64 ((y / 2 : Nat) : Int) = ((y / 2 : Nat) : Int) from by unfold wrap64; omega, show wrap64 ((j : Int) - 1) = (j : Int) - 1 from by unfold wrap64; omega]
    exact hk
theorem s_l0 (n : Nat) (h1 : 1 ≤ n) (hn : n ≤ 12) (ws : List S60) (hw : ws.length ≤ 2100) (hin : inW n ws) : ∀ (d x : Nat), x + d = 2 ^ n → Ev fun k => spec_NetFault.l0 k (x : Int) (n : Int) ws = some (fs n ws d x) := by
  have hp : 2 ^ n ≤ 4096 := Nat.le_trans (Nat.pow_le_pow_right (by omega) hn) (by decide)
  intro d
  induction d with
  | zero =>
    intro x hx
    refine Ev.from (n + 2) fun k hk => ?_
    obtain ⟨k, rfl⟩ : ∃ m, k = m + 1 := ⟨k - 1, by omega⟩
    simp only [spec_NetFault.l0]
    rw [pow_eq n hn k (by omega)]
    simp only [Option.bind_some]
    rw [if_neg (by omega)]; rfl
  | succ d ih =>
    intro x hx
    have hL : (bitsL n x).length = n := bitsL_len n x
    have hR : (runT ws (bitsL n x)).length = n := by rw [runT_len, hL]
    have key := s_l2 n h1 hn ws x (by omega) (bitsL n x) (runT ws (bitsL n x)) (fs n ws d (x + 1)) hR (ih (x + 1) (by omega)) (n - 1) 1 (by omega) h1 rfl rfl
    have t2 := (key.and (Ev.from (P := fun k => ws.length < k) (ws.length + 1) fun k hk => hk)).imp (Q := fun k => ((spec_l08Run.f k (n : Int) ws (bitsL n x)).bind fun t => (spec_NetFault.l2 k (x : Int) (bitsL n x) t 1 (n : Int) ws)) = some (fs n ws (d + 1) x)) fun k hk => by
      rw [specRun_eq (n : Int) ws _ hw (by omega) (by rw [hL]; exact hin) k hk.2]
      simp only [Option.bind_some]
      exact hk.1
    have l1 := s_l1 n hn ws x (by omega) _ t2 n (List.replicate n 0) (by simp) (Nat.le_refl _) (by rw [List.drop_eq_nil_of_le (by simp), List.drop_eq_nil_of_le (by rw [hL]; omega)])
    refine (l1.and (Ev.from (P := fun k => n < k) (n + 1) fun k hk => hk)).up fun k hk => ?_
    obtain ⟨hk, hk2⟩ := hk
    simp only [spec_NetFault.l0]
    rw [pow_eq n hn k hk2]
    simp only [Option.bind_some]
    rw [if_pos (by omega), if_pos (by omega), if_pos (by omega), Int.toNat_natCast, show wrap64 ((n : Int) - 1) = (n : Int) - 1 from by unfold wrap64; omega]
    rw [Nat.sub_self, Nat.pow_zero, Nat.div_one] at hk
    exact hk
/-- What NetFault answers. -/
def faultR (n : Int) (ws : List S60) : List Int := if netB n ws = true ∧ n ≤ 12 then fs n.toNat ws (2 ^ n.toNat) 0 else []
theorem faultR_len (n : Int) (ws : List S60) : (faultR n ws).length ≤ 12 := by
  unfold faultR
  split
  · rename_i h
    exact Nat.le_trans (fs_len _ _ _ _) (by omega)
  · simp
theorem iFault' (n : Int) (ws : List S60) (h : netB n ws = true) (h12 : n ≤ 12) : Ev fun k => impl_netFault.f k n ws = some (faultR n ws) := by
  obtain ⟨h1, h2, h3, h4⟩ := netB_in n ws h
  obtain ⟨n, rfl⟩ := Int.eq_ofNat_of_zero_le (show 0 ≤ n by omega)
  rw [Int.toNat_natCast] at h4
  refine (i_l0 n (by omega) (by omega) ws h4 (2 ^ n) 0 (List.replicate n 0) (by simp) (by omega)).imp fun k hk => ?_
  unfold impl_netFault.f faultR
  have e : shl .i64 1 (n : Int) = ((2 ^ n : Nat) : Int) := by
    have hp : 2 ^ n ≤ 4096 := Nat.le_trans (Nat.pow_le_pow_right (by omega) (show n ≤ 12 by omega)) (by decide)
    unfold shl
    rw [Int.toNat_natCast, show min n IntKind.i64.bits = n from Nat.min_eq_left (show n ≤ 64 by omega), Int.one_mul, IntKind.wrap_i64]
    have : ((2 : Int) ^ n) = ((2 ^ n : Nat) : Int) := by rw [Int.natCast_pow]; rfl
    rw [this]
    obtain ⟨z, hz⟩ : ∃ z, z = 2 ^ n := ⟨_, rfl⟩
    rw [← hz] at hp ⊢
    omega
  rw [if_pos (by omega), if_pos (by omega), if_pos ⟨h, h12⟩, Int.toNat_natCast, e]
  exact hk
theorem sFault (n : Int) (ws : List S60) (hw : ws.length ≤ 1048576) : Ev fun k => spec_NetFault.f k n ws = some (faultR n ws) := by
  by_cases c : netB n ws = true
  · by_cases c2 : n ≤ 12
    · obtain ⟨h1, h2, h3, h4⟩ := netB_in n ws c
      obtain ⟨n, rfl⟩ := Int.eq_ofNat_of_zero_le (show 0 ≤ n by omega)
      rw [Int.toNat_natCast] at h4
      refine ((s_l0 n (by omega) (by omega) ws h3 h4 (2 ^ n) 0 (by omega)).and (Ev.from (P := fun k => ws.length + 1 < k) (ws.length + 2) fun k hk => hk)).up fun k hk => ?_
      unfold spec_NetFault.f faultR
      rw [netOk_eq _ ws hw _ (by omega)]
      simp only [Option.bind_some]
      rw [if_pos c, if_pos ⟨c, c2⟩, decide_eq_false (by omega), Int.toNat_natCast]
      simp only [spec_NetFault.j0]
      exact hk.1
    · refine Ev.from (ws.length + 2) fun k hk => ?_
      obtain ⟨k, rfl⟩ : ∃ m, k = m + 1 := ⟨k - 1, by omega⟩
      unfold spec_NetFault.f faultR
      rw [netOk_eq _ ws hw _ (by omega)]
      simp only [Option.bind_some]
      rw [if_pos c, if_neg (fun h => c2 h.2), decide_eq_true (by omega)]
      simp [spec_NetFault.j0]
  · refine Ev.from (ws.length + 2) fun k hk => ?_
    obtain ⟨k, rfl⟩ : ∃ m, k = m + 1 := ⟨k - 1, by omega⟩
    unfold spec_NetFault.f faultR
    rw [netOk_eq _ ws hw _ (by omega)]
    simp only [Option.bind_some]
    rw [if_neg c, if_neg (fun h => c h.1)]
    simp [spec_NetFault.j0]
def sortsR (n : Int) (ws : List S60) : Bool := netB n ws && (decide (n ≤ 12) && decide (faultR n ws = []))
theorem iSorts (n : Int) (ws : List S60) : Ev fun k => impl_NetSorts.f k n ws = some (sortsR n ws) := by
  by_cases c : netB n ws = true
  · by_cases c2 : n ≤ 12
    · refine (iFault' n ws c c2).imp fun k hk => ?_
      unfold impl_NetSorts.f sortsR
      rw [isNet_eq]
      simp only [Option.bind_some]
      rw [if_pos c, if_pos c2, hk, c, decide_eq_true c2]
      simp
    · refine Ev.from 0 fun k _ => ?_
      unfold impl_NetSorts.f sortsR
      rw [isNet_eq]
      simp only [Option.bind_some]
      rw [if_pos c, if_neg c2, decide_eq_false c2]
      simp
  · refine Ev.from 0 fun k _ => ?_
    unfold impl_NetSorts.f sortsR
    rw [isNet_eq]
    simp only [Option.bind_some]
    rw [if_neg c, Bool.eq_false_iff.2 c]
    rfl
theorem sSorts (n : Int) (ws : List S60) (hw : ws.length ≤ 1048576) : Ev fun k => spec_NetSorts.f k n ws = some (sortsR n ws) := by
  refine ((sFault n ws hw).and (Ev.from (P := fun k => ws.length + 1 < k) (ws.length + 2) fun k hk => hk)).imp fun k hk => ?_
  obtain ⟨hk, hk2⟩ := hk
  unfold spec_NetSorts.f sortsR
  rw [netOk_eq n ws hw k hk2]
  simp only [Option.bind_some]
  by_cases c : netB n ws = true
  · by_cases c2 : n ≤ 12
    · rw [if_pos c, if_pos c2, hk, c, decide_eq_true c2]
      simp only [Option.bind_some, Bool.true_and]
      congr 1
      cases faultR n ws with
      | nil => rfl
      | cons a l =>
        rw [decide_eq_false (by simp)]
        exact beq_eq_false_iff_ne.2 (by simp; omega)
    · rw [if_pos c, if_neg c2, decide_eq_false c2]
      simp
  · rw [if_neg c, Bool.eq_false_iff.2 c]
    rfl
theorem FnExactNetSorts (x0 : S32) (w0 : ok32 x0) : ∃ k, laws_FnExactNetSorts.f k x0.f0 x0.f1 = some true := by
  obtain ⟨n, l⟩ := x0
  obtain ⟨_, hl, _⟩ := w0
  simp only at hl ⊢
  by_cases c : l.length ≤ 1048576
  · have hL : (l.map cvW).length = l.length := List.length_map _
    obtain ⟨K, h1⟩ := sSorts n (l.map cvW) (by omega)
    obtain ⟨K', h2⟩ := iSorts n (l.map cvW)
    refine ⟨K + K' + l.length + 5, ?_⟩
    unfold laws_FnExactNetSorts.f
    rw [szNet_eq n l hl 1048576 (by omega) (by omega)]
    simp only [Option.bind_some]
    rw [if_neg (by omega), toNet_eq n l (by omega) _ (by omega)]
    simp only [Option.bind_some]
    rw [h1 _ (by omega), h2 _ (by omega)]
    simp only [Option.bind_some, bne_self_eq_false, Bool.false_eq_true, if_false]
    rw [eqNet_eq n _ (by omega) _ (by omega)]
    simp
  · refine ⟨0, ?_⟩
    unfold laws_FnExactNetSorts.f
    rw [szNet_eq n l hl 1048576 (by omega) (by omega)]
    simp only [Option.bind_some]
    rw [if_pos (by omega)]

end Go.Proofs.Ytijikfllffjdhaa.Pure

/- The program's NetOk returns what the reference's returns and leaves its argument as it was, for every net. Conditions: none. -/
import Derived.Test.YtijikfllffjdhaaOpenFnExactNetOk
namespace Go.Proofs.Ytijikfllffjdhaa.Pure
open Go.RowKit Go.Proofs.Ytijikfllffjdhaa.OpenFnExactNetOk Go.Proofs.Ytijikfllffjdhaa.RowOpen Go.Proofs.Ytijikfllffjdhaa.PFnExactNetOk Go.Proofs.YtijikfllffjdhaaW.PrintWords Go.Proofs.YtijikfllffjdhaaW.PrintLast Go.Proofs.YtijikfllffjdhaaW.PrintMore
set_option linter.unusedVariables false
set_option linter.unusedSimpArgs false

theorem wr1 (i : Nat) (h : i ≤ 4000000) : wrap64 ((i : Int) + 1) = ((i + 1 : Nat) : Int) := by unfold wrap64; omega
theorem rd60 (l : List S60) (i : Nat) (h : i < l.length) : rd_T60 l (i : Int) = l[i] := by simp [rd_T60, h]
theorem eqWireS_l0 (a : List S60) (ha : a.length ≤ 1048576) : ∀ (d k i : Nat), i ≤ a.length → a.length - i = d → d < k → laws_eqWireS.l0 k a a (i : Int) = some true := by
  intro d
  induction d with
  | zero =>
    intro k i hi hd hk
    obtain ⟨k, rfl⟩ : ∃ m, k = m + 1 := ⟨k - 1, by omega⟩
    simp only [laws_eqWireS.l0]
    rw [if_neg (by omega)]
  | succ d ih =>
    intro k i hi hd hk
    obtain ⟨k, rfl⟩ : ∃ m, k = m + 1 := ⟨k - 1, by omega⟩
    simp only [laws_eqWireS.l0]
    rw [if_pos (by omega), if_pos (by omega), if_pos (by omega)]
    unfold laws_eqWire.f
    rw [if_pos rfl, if_pos rfl]
    simp only [Option.bind_some, if_true]
    rw [wr1 i (by omega)]
    exact ih k (i + 1) (by omega) (by omega) (by omega)
theorem eqNet_eq (n : Int) (a : List S60) (ha : a.length ≤ 1048576) (k : Nat) (hk : a.length < k) : laws_eqNet.f k n a n a = some true := by
  unfold laws_eqNet.f laws_eqWireS.f
  rw [if_pos rfl, if_pos rfl]
  have := eqWireS_l0 a ha a.length k 0 (by omega) (by omega) hk
  rw [show ((0 : Nat) : Int) = 0 from rfl] at this
  rw [this]; rfl
def cvW (x : S73) : S60 := ⟨x.f0, x.f1⟩
theorem rd73 (l : List S73) (i : Nat) (h : i < l.length) : rd_T73 l (i : Int) = l[i] := by simp [rd_T73, h]
theorem szNet_eq (n : Int) (l : List S73) (h : l.length ≤ maxLen) (left : Int) (h0 : 0 ≤ left) (h1 : left ≤ 1048576) : laws_szNet.f n l left = some (if left < (l.length : Int) then -1 else left - (l.length : Int)) := by
  unfold maxLen at h
  unfold laws_szNet.f laws_szWireS.f
  rw [show wrap64 (left - (l.length : Int)) = left - (l.length : Int) from by unfold wrap64; omega]
  by_cases c : left < (l.length : Int)
  · rw [if_pos c, if_pos (by omega)]; rfl
  · rw [if_neg c, if_neg (by omega)]
    simp only [Option.bind_some]
    rw [if_neg (by omega)]
theorem take_setW (x : List S60) (l : List S73) (i : Nat) (hi : i < l.length) (hx : x.length = l.length) (h : x.take i = (l.map cvW).take i) : (x.set i (cvW l[i])).take (i + 1) = (l.map cvW).take (i + 1) := by
  rw [List.take_add_one, List.take_add_one, List.take_set_of_le (Nat.le_refl _), h]
  simp [hi, hx]
theorem toWireS_l0 (l : List S73) (hl : l.length ≤ 1048576) : ∀ (d k i : Nat) (x : List S60), x.length = l.length → i ≤ l.length → l.length - i = d → d < k → x.take i = (l.map cvW).take i →
    laws_toWireS.l0 k l x (i : Int) = some (l.map cvW) := by
  intro d
  induction d with
  | zero =>
    intro k i x hx hi hd hk h
    obtain ⟨k, rfl⟩ : ∃ m, k = m + 1 := ⟨k - 1, by omega⟩
    simp only [laws_toWireS.l0]
    rw [if_neg (by omega)]
    rw [List.take_of_length_le (by omega), List.take_of_length_le (by simp; omega)] at h
    rw [h]
  | succ d ih =>
    intro k i x hx hi hd hk h
    obtain ⟨k, rfl⟩ : ∃ m, k = m + 1 := ⟨k - 1, by omega⟩
    have hlt : i < l.length := by omega
    simp only [laws_toWireS.l0]
    rw [if_pos (by omega), if_pos (by omega), rd73 l i hlt]
    unfold laws_toWire.f
    simp only [Option.bind_some]
    rw [if_pos (by omega), wr1 i (by omega), Int.toNat_natCast]
    exact ih k (i + 1) _ (by simp [hx]) (by omega) (by omega) (by omega) (take_setW x l i hlt hx h)
theorem toNet_eq (n : Int) (l : List S73) (hl : l.length ≤ 1048576) (k : Nat) (hk : l.length < k) : laws_toNet.f k n l = some (n, l.map cvW) := by
  unfold laws_toNet.f laws_toWireS.f
  rw [if_pos (by omega), if_pos (by omega)]
  have := toWireS_l0 l hl l.length k 0 (List.replicate (l.length : Int).toNat z60) (by simp) (by omega) (by omega) hk rfl
  rw [show ((0 : Nat) : Int) = 0 from rfl] at this
  rw [this]; rfl
/-- Is it a net? -/
def netB (n : Int) (l : List S60) : Bool := decide (1 ≤ n ∧ n ≤ 64) && (decide (l.length ≤ 2100) && !(l.any (badW n)))
theorem netOk_l0 (n : Int) (l : List S60) (hl : l.length ≤ 1048576) : ∀ (d k i : Nat), i ≤ l.length → l.length - i = d → d < k → spec_NetOk.l0 k (i : Int) n l = some (!((l.drop i).any (badW n))) := by
  intro d
  induction d with
  | zero =>
    intro k i hi hd hk
    obtain ⟨k, rfl⟩ : ∃ m, k = m + 1 := ⟨k - 1, by omega⟩
    simp only [spec_NetOk.l0]
    rw [if_neg (by omega), List.drop_eq_nil_of_le (by omega)]; rfl
  | succ d ih =>
    intro k i hi hd hk
    obtain ⟨k, rfl⟩ : ∃ m, k = m + 1 := ⟨k - 1, by omega⟩
    have hlt : i < l.length := by omega
    simp only [spec_NetOk.l0]
    rw [if_pos (by omega), if_pos (by omega), rd60 l i hlt, wr1 i (by omega), ih k (i + 1) (by omega) (by omega) (by omega), List.drop_eq_getElem_cons hlt, List.any_cons]
    have e : badW n l[i] = (decide ((l[i]).f0 < 0) || (decide ((l[i]).f1 ≤ (l[i]).f0) || decide (n ≤ (l[i]).f1))) := rfl
    rw [e]
    by_cases c1 : (l[i]).f0 < 0
    · rw [if_pos c1, decide_eq_true c1]; rfl
    · rw [if_neg c1, decide_eq_false c1]
      by_cases c2 : (l[i]).f1 ≤ (l[i]).f0
      · rw [if_pos c2, decide_eq_true c2]; rfl
      · rw [if_neg c2, decide_eq_false c2]
        by_cases c3 : (l[i]).f1 ≥ n
        · rw [if_pos c3, decide_eq_true (show n ≤ (l[i]).f1 from c3)]; rfl
        · rw [if_neg c3, decide_eq_false (show ¬ n ≤ (l[i]).f1 from c3)]; rfl
theorem netOk_eq (n : Int) (l : List S60) (hl : l.length ≤ 1048576) (k : Nat) (hk : l.length + 1 < k) : spec_NetOk.f k n l = some (netB n l) := by
  obtain ⟨k, rfl⟩ : ∃ m, k = m + 1 := ⟨k - 1, by omega⟩
  unfold spec_NetOk.f netB
  by_cases c1 : n < 1
  · rw [if_pos c1, decide_eq_false (by omega)]
    simp [spec_NetOk.j0]
  · rw [if_neg c1]
    by_cases c2 : n > 64
    · rw [if_pos c2, decide_eq_false (show ¬ (1 ≤ n ∧ n ≤ 64) from by omega)]
      simp [spec_NetOk.j0]
    · rw [if_neg c2, decide_eq_true (show 1 ≤ n ∧ n ≤ 64 from by omega)]
      by_cases c3 : (l.length : Int) > 2100
      · rw [decide_eq_true c3, decide_eq_false (show ¬ l.length ≤ 2100 from by omega)]
        simp [spec_NetOk.j0]
      · rw [decide_eq_false c3, decide_eq_true (show l.length ≤ 2100 from by omega)]
        simp only [spec_NetOk.j0]
        have := netOk_l0 n l hl l.length k 0 (by omega) (by omega) (by omega)
        rw [show ((0 : Nat) : Int) = 0 from rfl] at this
        rw [if_neg (by decide), this]
        simp
theorem isNet_eq (n : Int) (l : List S60) : impl_isNet.f n l = some (netB n l) := rfl
theorem FnExactNetOk (x0 : S32) (w0 : ok32 x0) : ∃ k, laws_FnExactNetOk.f k x0.f0 x0.f1 = some true := by
  obtain ⟨n, l⟩ := x0
  obtain ⟨_, hl, _⟩ := w0
  simp only at hl ⊢
  refine ⟨l.length + 5, ?_⟩
  unfold laws_FnExactNetOk.f
  rw [szNet_eq n l hl 1048576 (by omega) (by omega)]
  simp only [Option.bind_some]
  by_cases c : (1048576 : Int) < (l.length : Int)
  · rw [if_pos c, if_pos (by omega)]
  · rw [if_neg c, if_neg (by omega), toNet_eq n l (by omega) _ (by omega)]
    simp only [Option.bind_some]
    unfold impl_NetOk.f
    rw [netOk_eq n _ (by rw [List.length_map]; omega) _ (by rw [List.length_map]; omega), isNet_eq, eqNet_eq n _ (by rw [List.length_map]; omega) _ (by rw [List.length_map]; omega)]
    simp

end Go.Proofs.Ytijikfllffjdhaa.Pure

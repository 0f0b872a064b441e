/- NetRun answers as the reference, leaves its arguments alone and shares no memory -/
import Derived.Test.YtijikfllffjdhaaOpenFnExactNetRun
namespace Go.Proofs.Ytijikfllffjdhaa.Pure
open Go.RowKit Go.Proofs.Ytijikfllffjdhaa.OpenFnExactNetRun Go.Proofs.Ytijikfllffjdhaa.RowOpen Go.Proofs.Ytijikfllffjdhaa.PFnExactNetRun Go.Proofs.YtijikfllffjdhaaW.PrintWords Go.Proofs.YtijikfllffjdhaaW.PrintLast Go.Proofs.YtijikfllffjdhaaW.PrintMore
set_option linter.unusedVariables false
set_option linter.unusedSimpArgs false

theorem wr1 (i : Nat) (h : i ≤ 4000000) : wrap64 ((i : Int) + 1) = ((i + 1 : Nat) : Int) := by unfold wrap64; omega
theorem rd60 (l : List S60) (i : Nat) (h : i < l.length) : rd_T60 l (i : Int) = l[i] := by simp [rd_T60, h]
theorem eqWireS_l0 (a : List S60) (ha : a.length ≤ 1048576) : ∀ (d k i : Nat), i ≤ a.length → a.length - i = d → d < k → laws_eqWireS.l0 k a a (i : Int) = some true := by
  intro d
  induction d with
  | zero =>
    intro k i hi hd hk
    obtain ⟨k, rfl⟩ : ∃ m, k = m + 1 := ⟨k - 1, by omega⟩
    simp only [laws_eqWireS.l0]
    rw [if_neg (by omega)]
  | succ d ih =>
    intro k i hi hd hk
    obtain ⟨k, rfl⟩ : ∃ m, k = m + 1 := ⟨k - 1, by omega⟩
    simp only [laws_eqWireS.l0]
    rw [if_pos (by omega), if_pos (by omega), if_pos (by omega)]
    unfold laws_eqWire.f
    rw [if_pos rfl, if_pos rfl]
    simp only [Option.bind_some, if_true]
    rw [wr1 i (by omega)]
    exact ih k (i + 1) (by omega) (by omega) (by omega)
theorem eqNet_eq (n : Int) (a : List S60) (ha : a.length ≤ 1048576) (k : Nat) (hk : a.length < k) : laws_eqNet.f k n a n a = some true := by
  unfold laws_eqNet.f laws_eqWireS.f
  rw [if_pos rfl, if_pos rfl]
  have := eqWireS_l0 a ha a.length k 0 (by omega) (by omega) hk
  rw [show ((0 : Nat) : Int) = 0 from rfl] at this
  rw [this]; rfl
def cvW (x : S73) : S60 := ⟨x.f0, x.f1⟩
theorem rd73 (l : List S73) (i : Nat) (h : i < l.length) : rd_T73 l (i : Int) = l[i] := by simp [rd_T73, h]
theorem szNet_eq (n : Int) (l : List S73) (h : l.length ≤ maxLen) (left : Int) (h0 : 0 ≤ left) (h1 : left ≤ 1048576) : laws_szNet.f n l left = some (if left < (l.length : Int) then -1 else left - (l.length : Int)) := by
  unfold maxLen at h
  unfold laws_szNet.f laws_szWireS.f
  rw [show wrap64 (left - (l.length : Int)) = left - (l.length : Int) from by unfold wrap64; omega]
  by_cases c : left < (l.length : Int)
  · rw [if_pos c, if_pos (by omega)]; rfl
  · rw [if_neg c, if_neg (by omega)]
    simp only [Option.bind_some]
    rw [if_neg (by omega)]
theorem take_setW (x : List S60) (l : List S73) (i : Nat) (hi : i < l.length) (hx : x.length = l.length) (h : x.take i = (l.map cvW).take i) : (x.set i (cvW l[i])).take (i + 1) = (l.map cvW).take (i + 1) := by
  rw [List.take_add_one, List.take_add_one, List.take_set_of_le (Nat.le_refl _), h]
  simp [hi, hx]
theorem toWireS_l0 (l : List S73) (hl : l.length ≤ 1048576) : ∀ (d k i : Nat) (x : List S60), x.length = l.length → i ≤ l.length → l.length - i = d → d < k → x.take i = (l.map cvW).take i →
    laws_toWireS.l0 k l x (i : Int) = some (l.map cvW) := by
  intro d
  induction d with
  | zero =>
    intro k i x hx hi hd hk h
    obtain ⟨k, rfl⟩ : ∃ m, k = m + 1 := ⟨k - 1, by omega⟩
    simp only [laws_toWireS.l0]
    rw [if_neg (by omega)]
    rw [List.take_of_length_le (by omega), List.take_of_length_le (by simp; omega)] at h
    rw [h]
  | succ d ih =>
    intro k i x hx hi hd hk h
    obtain ⟨k, rfl⟩ : ∃ m, k = m + 1 := ⟨k - 1, by omega⟩
    have hlt : i < l.length := by omega
    simp only [laws_toWireS.l0]
    rw [if_pos (by omega), if_pos (by omega), rd73 l i hlt]
    unfold laws_toWire.f
    simp only [Option.bind_some]
    rw [if_pos (by omega), wr1 i (by omega), Int.toNat_natCast]
    exact ih k (i + 1) _ (by simp [hx]) (by omega) (by omega) (by omega) (take_setW x l i hlt hx h)
theorem toNet_eq (n : Int) (l : List S73) (hl : l.length ≤ 1048576) (k : Nat) (hk : l.length < k) : laws_toNet.f k n l = some (n, l.map cvW) := by
  unfold laws_toNet.f laws_toWireS.f
  rw [if_pos (by omega), if_pos (by omega)]
  have := toWireS_l0 l hl l.length k 0 (List.replicate (l.length : Int).toNat z60) (by simp) (by omega) (by omega) hk rfl
  rw [show ((0 : Nat) : Int) = 0 from rfl] at this
  rw [this]; rfl
/-- Is it a net? -/
def netB (n : Int) (l : List S60) : Bool := decide (1 ≤ n ∧ n ≤ 64) && (decide (l.length ≤ 2100) && !(l.any (badW n)))
theorem netOk_l0 (n : Int) (l : List S60) (hl : l.length ≤ 1048576) : ∀ (d k i : Nat), i ≤ l.length → l.length - i = d → d < k → spec_NetOk.l0 k (i : Int) n l = some (!((l.drop i).any (badW n))) := by
  intro d
  induction d with
  | zero =>
    intro k i hi hd hk
    obtain ⟨k, rfl⟩ : ∃ m, k = m + 1 := ⟨k - 1, by omega⟩
    simp only [spec_NetOk.l0]
    rw [if_neg (by omega), List.drop_eq_nil_of_le (by omega)]; rfl
  | succ d ih =>
    intro k i hi hd hk
    obtain ⟨k, rfl⟩ : ∃ m, k = m + 1 := ⟨k - 1, by omega⟩
    have hlt : i < l.length := by omega
    simp only [spec_NetOk.l0]
    rw [if_pos (by omega), if_pos (by omega), rd60 l i hlt, wr1 i (by omega), ih k (i + 1) (by omega) (by omega) (by omega), List.drop_eq_getElem_cons hlt, List.any_cons]
    have e : badW n l[i] = (decide ((l[i]).f0 < 0) || (decide ((l[i]).f1 ≤ (l[i]).f0) || decide (n ≤ (l[i]).f1))) := rfl
    rw [e]
    by_cases c1 : (l[i]).f0 < 0
    · rw [if_pos c1, decide_eq_true c1]; rfl
    · rw [if_neg c1, decide_eq_false c1]
      by_cases c2 : (l[i]).f1 ≤ (l[i]).f0
      · rw [if_pos c2, decide_eq_true c2]; rfl
      · rw [if_neg c2, decide_eq_false c2]
        by_cases c3 : (l[i]).f1 ≥ n
        · rw [if_pos c3, decide_eq_true (show n ≤ (l[i]).f1 from c3)]; rfl
        · rw [if_neg c3, decide_eq_false (show ¬ n ≤ (l[i]).f1 from c3)]; rfl
theorem netOk_eq (n : Int) (l : List S60) (hl : l.length ≤ 1048576) (k : Nat) (hk : l.length + 1 < k) : spec_NetOk.f k n l = some (netB n l) := by
  obtain ⟨k, rfl⟩ : ∃ m, k = m + 1 := ⟨k - 1, by omega⟩
  unfold spec_NetOk.f netB
  by_cases c1 : n < 1
  · rw [if_pos c1, decide_eq_false (by omega)]
    simp [spec_NetOk.j0]
  · rw [if_neg c1]
    by_cases c2 : n > 64
    · rw [if_pos c2, decide_eq_false (show ¬ (1 ≤ n ∧ n ≤ 64) from by omega)]
      simp [spec_NetOk.j0]
    · rw [if_neg c2, decide_eq_true (show 1 ≤ n ∧ n ≤ 64 from by omega)]
      by_cases c3 : (l.length : Int) > 2100
      · rw [decide_eq_true c3, decide_eq_false (show ¬ l.length ≤ 2100 from by omega)]
        simp [spec_NetOk.j0]
      · rw [decide_eq_false c3, decide_eq_true (show l.length ≤ 2100 from by omega)]
        simp only [spec_NetOk.j0]
        have := netOk_l0 n l hl l.length k 0 (by omega) (by omega) (by omega)
        rw [show ((0 : Nat) : Int) = 0 from rfl] at this
        rw [if_neg (by decide), this]
        simp
theorem isNet_eq (n : Int) (l : List S60) : impl_isNet.f n l = some (netB n l) := rfl
theorem take_set_IntS (x l : List Int) (i : Nat) (hi : i < l.length) (hx : x.length = l.length) (h : x.take i = l.take i) : (x.set i (rd l (i : Int))).take (i + 1) = l.take (i + 1) := by
  have hr : rd l (i : Int) = l[i] := by simp [rd, hi]
  rw [hr, List.take_add_one, List.take_add_one, List.take_set_of_le (Nat.le_refl _), h]
  simp [hi, hx]
theorem toIntS_l0 (l : List Int) (hl : l.length ≤ 1048576) : ∀ (d k i : Nat) (x : List Int), x.length = l.length → i ≤ l.length → l.length - i = d → d < k → x.take i = l.take i → laws_toIntS.l0 k l x (i : Int) = some l := by
  intro d
  induction d with
  | zero =>
    intro k i x hx hi hd hk h
    obtain ⟨k, rfl⟩ : ∃ m, k = m + 1 := ⟨k - 1, by omega⟩
    simp only [laws_toIntS.l0]
    rw [if_neg (by omega)]
    rw [List.take_of_length_le (by omega), List.take_of_length_le (by omega)] at h
    rw [h]
  | succ d ih =>
    intro k i x hx hi hd hk h
    obtain ⟨k, rfl⟩ : ∃ m, k = m + 1 := ⟨k - 1, by omega⟩
    simp only [laws_toIntS.l0]
    rw [if_pos (by omega), if_pos (by omega), if_pos (by omega), show wrap64 ((i : Int) + 1) = ((i + 1 : Nat) : Int) from by unfold wrap64; omega, Int.toNat_natCast]
    exact ih k (i + 1) _ (by simp [hx]) (by omega) (by omega) (by omega) (take_set_IntS x l i (by omega) hx h)
theorem toIntS_eq (l : List Int) (hl : l.length ≤ 1048576) (k : Nat) (hk : l.length < k) : laws_toIntS.f k l = some l := by
  unfold laws_toIntS.f
  rw [if_pos (by omega), if_pos (by omega)]
  exact toIntS_l0 l hl l.length k 0 _ (by simp) (by omega) (by omega) hk rfl
theorem eqIntS_l0 (a : List Int) (ha : a.length ≤ 1048576) : ∀ (d k i : Nat), i ≤ a.length → a.length - i = d → d < k → laws_eqIntS.l0 k a a (i : Int) = some true := by
  intro d
  induction d with
  | zero =>
    intro k i hi hd hk
    obtain ⟨k, rfl⟩ : ∃ m, k = m + 1 := ⟨k - 1, by omega⟩
    simp only [laws_eqIntS.l0]
    rw [if_neg (by omega)]
  | succ d ih =>
    intro k i hi hd hk
    obtain ⟨k, rfl⟩ : ∃ m, k = m + 1 := ⟨k - 1, by omega⟩
    simp only [laws_eqIntS.l0]
    rw [if_pos (by omega), if_pos (by omega), if_pos (by omega), if_pos trivial, show wrap64 ((i : Int) + 1) = ((i + 1 : Nat) : Int) from by unfold wrap64; omega]
    exact ih k (i + 1) (by omega) (by omega) (by omega)
theorem eqIntS_eq (a : List Int) (ha : a.length ≤ 1048576) (k : Nat) (hk : a.length < k) : laws_eqIntS.f k a a = some true := by
  unfold laws_eqIntS.f
  rw [if_pos rfl]
  exact eqIntS_l0 a ha a.length k 0 (by omega) (by omega) hk
def mkW (n : Nat) : List S60 := (List.range n).map fun (i : Nat) => ⟨1 + 2 * (i : Int), 2 + 2 * (i : Int)⟩
theorem mkW_length (n : Nat) : (mkW n).length = n := by simp [mkW]
theorem mkW_get (n i : Nat) (h : i < (mkW n).length) : (mkW n)[i] = ⟨1 + 2 * (i : Int), 2 + 2 * (i : Int)⟩ := by simp [mkW]
theorem markW_step (x : List S60) (n i : Nat) (hi : i < n) (hx : x.length = n) (h : x.take i = (mkW n).take i) : (x.set i ⟨1 + 2 * (i : Int), 2 + 2 * (i : Int)⟩).take (i + 1) = (mkW n).take (i + 1) := by
  rw [List.take_add_one, List.take_add_one, List.take_set_of_le (Nat.le_refl _), h]
  have h2 : i < (mkW n).length := by rw [mkW_length]; exact hi
  rw [List.getElem?_eq_getElem h2, mkW_get]
  simp [hi, hx]
theorem markW_l0 (n : Nat) (hn : n ≤ 1048576) : ∀ (d k i : Nat) (x : List S60), x.length = n → i ≤ n → n - i = d → d < k → x.take i = (mkW n).take i →
    laws_markWireS.l0 k x (1 + 2 * (i : Int)) (i : Int) = some (1 + 2 * (n : Int), mkW n) := by
  intro d
  induction d with
  | zero =>
    intro k i x hx hi hd hk h
    obtain ⟨k, rfl⟩ : ∃ m, k = m + 1 := ⟨k - 1, by omega⟩
    simp only [laws_markWireS.l0]
    rw [if_neg (by omega)]
    rw [List.take_of_length_le (by omega), List.take_of_length_le (by rw [mkW_length]; omega)] at h
    rw [h, show (i : Int) = (n : Int) from by omega]
  | succ d ih =>
    intro k i x hx hi hd hk h
    obtain ⟨k, rfl⟩ : ∃ m, k = m + 1 := ⟨k - 1, by omega⟩
    simp only [laws_markWireS.l0]
    rw [if_pos (by omega), if_pos (by omega)]
    simp only [Option.bind_some]
    have hlx : i < x.length := by omega
    rw [Int.toNat_natCast, rd60 x i hlx, rd60 (x.set i ⟨1 + 2 * (i : Int), (x[i]).f1⟩) i (by rw [List.length_set]; exact hlx)]
    simp only [List.getElem_set_self, List.set_set]
    rw [show wrap64 (1 + 2 * (i : Int) + 1) = 2 + 2 * (i : Int) from by unfold wrap64; omega, show wrap64 (2 + 2 * (i : Int) + 1) = 1 + 2 * ((i + 1 : Nat) : Int) from by unfold wrap64; omega, wr1 i (by omega)]
    exact ih k (i + 1) _ (by simp [hx]) (by omega) (by omega) (by omega) (markW_step x n i (by omega) hx h)
theorem markNet_eq (n : Int) (l : List S60) (hl : l.length ≤ 1048576) (k : Nat) (hk : l.length < k) : laws_markNet.f k n l 1 = some (1 + 2 * (l.length : Int), mkW l.length) := by
  unfold laws_markNet.f laws_markWireS.f
  have := markW_l0 l.length hl l.length k 0 l rfl (by omega) (by omega) hk rfl
  rw [show ((0 : Nat) : Int) = 0 from rfl] at this
  rw [show (1 : Int) + 2 * 0 = 1 from rfl] at this
  rw [this]; rfl
def mkI (a : Int) (n : Nat) : List Int := (List.range n).map fun (i : Nat) => a + (i : Int)
theorem mkI_length (a : Int) (n : Nat) : (mkI a n).length = n := by simp [mkI]
theorem mkI_step (a : Int) (x : List Int) (n i : Nat) (hi : i < n) (hx : x.length = n) (h : x.take i = (mkI a n).take i) : (x.set i (a + (i : Int))).take (i + 1) = (mkI a n).take (i + 1) := by
  rw [List.take_add_one, List.take_add_one, List.take_set_of_le (Nat.le_refl _), h]
  simp [hi, hx, mkI]
theorem markI_l0 (a : Int) (n : Nat) (hn : n ≤ 1048576) (ha0 : 0 ≤ a) (ha : a ≤ 4194304) : ∀ (d k i : Nat) (x : List Int), x.length = n → i ≤ n → n - i = d → d < k → x.take i = (mkI a n).take i →
    laws_markIntS.l0 k x (a + (i : Int)) (i : Int) = some (a + (n : Int), mkI a n) := by
  intro d
  induction d with
  | zero =>
    intro k i x hx hi hd hk h
    obtain ⟨k, rfl⟩ : ∃ m, k = m + 1 := ⟨k - 1, by omega⟩
    simp only [laws_markIntS.l0]
    rw [if_neg (by omega)]
    rw [List.take_of_length_le (by omega), List.take_of_length_le (by rw [mkI_length]; omega)] at h
    rw [h, show i = n by omega]
  | succ d ih =>
    intro k i x hx hi hd hk h
    obtain ⟨k, rfl⟩ : ∃ m, k = m + 1 := ⟨k - 1, by omega⟩
    simp only [laws_markIntS.l0]
    rw [if_pos (by omega), if_pos (by omega), show wrap64 (a + (i : Int) + 1) = a + ((i + 1 : Nat) : Int) from by unfold wrap64; omega, show wrap64 ((i : Int) + 1) = ((i + 1 : Nat) : Int) from by unfold wrap64; omega, Int.toNat_natCast]
    exact ih k (i + 1) _ (by simp [hx]) (by omega) (by omega) (by omega) (mkI_step a x n i (by omega) hx h)
theorem markI_eq (a : Int) (l : List Int) (hl : l.length ≤ 1048576) (ha0 : 0 ≤ a) (ha : a ≤ 4194304) (k : Nat) (hk : l.length < k) : laws_markIntS.f k l a = some (a + (l.length : Int), mkI a l.length) := by
  unfold laws_markIntS.f
  have := markI_l0 a l.length hl ha0 ha l.length k 0 l rfl (by omega) (by omega) hk rfl
  simpa using this
theorem heldI_l0 (n : Nat) (hn : n ≤ 1048576) : ∀ (d k i : Nat), i ≤ n → n - i = d → d < k → laws_heldIntS.l0 k (mkI 1 n) (1 + (i : Int)) (i : Int) = some (1 + (n : Int)) := by
  intro d
  induction d with
  | zero =>
    intro k i hi hd hk
    obtain ⟨k, rfl⟩ : ∃ m, k = m + 1 := ⟨k - 1, by omega⟩
    simp only [laws_heldIntS.l0]
    rw [if_neg (by rw [mkI_length]; omega), show i = n by omega]
  | succ d ih =>
    intro k i hi hd hk
    obtain ⟨k, rfl⟩ : ∃ m, k = m + 1 := ⟨k - 1, by omega⟩
    simp only [laws_heldIntS.l0]
    have e : rd (mkI 1 n) (i : Int) = 1 + (i : Int) := by
      have : i < n := by omega
      simp [rd, mkI, this]
    rw [if_pos (by rw [mkI_length]; omega), if_pos (by omega), if_pos e, show wrap64 (1 + (i : Int) + 1) = 1 + ((i + 1 : Nat) : Int) from by unfold wrap64; omega, show wrap64 ((i : Int) + 1) = ((i + 1 : Nat) : Int) from by unfold wrap64; omega]
    exact ih k (i + 1) (by omega) (by omega) (by omega)
theorem heldI_eq (n : Nat) (hn : n ≤ 1048576) (k : Nat) (hk : n < k) : laws_heldIntS.f k (mkI 1 n) 1 = some (1 + (n : Int)) := by
  unfold laws_heldIntS.f
  have := heldI_l0 n hn n k 0 (by omega) (by omega) hk
  simpa using this
def swapT (x : S60) (l : List Int) : List Int := if rd l x.f1 < rd l x.f0 then (l.set x.f0.toNat (rd l x.f1)).set x.f1.toNat (rd l x.f0) else l
def runT : List S60 → List Int → List Int
  | [], l => l
  | x :: ws, l => runT ws (swapT x l)
theorem swapT_len (x : S60) (l : List Int) : (swapT x l).length = l.length := by unfold swapT; split <;> simp
theorem runT_len : ∀ (ws : List S60) (l : List Int), (runT ws l).length = l.length
  | [], l => rfl
  | x :: ws, l => by unfold runT; rw [runT_len ws, swapT_len]
def inW (n : Nat) (ws : List S60) : Prop := ∀ x, x ∈ ws → 0 ≤ x.f0 ∧ x.f0 < x.f1 ∧ x.f1 < (n : Int)
theorem netB_in (n : Int) (ws : List S60) (h : netB n ws = true) : 1 ≤ n ∧ n ≤ 64 ∧ ws.length ≤ 2100 ∧ inW n.toNat ws := by
  simp only [netB, Bool.and_eq_true, decide_eq_true_eq, Bool.not_eq_true', List.any_eq_false] at h
  obtain ⟨⟨h1, h2⟩, h3, h4⟩ := h
  refine ⟨h1, h2, h3, fun x hx => ?_⟩
  have := h4 x hx
  simp [badW] at this
  omega
theorem runL_eq : ∀ (ws : List S60) (l : List Int), inW l.length ws → runL ws l = some (runT ws l)
  | [], l, _ => rfl
  | x :: ws, l, h => by
    have hx := h x (by simp)
    have e : swapL x l = some (swapT x l) := by
      unfold swapL swapT
      rw [if_pos ⟨by omega, by omega, by omega, by omega⟩]
      split <;> rfl
    unfold runL runT
    rw [e]
    simp only [Option.bind_some]
    exact runL_eq ws _ (by rw [swapT_len]; exact fun y hy => h y (by simp [hy]))
theorem set_self (l : List Int) (i : Nat) (hi : i < l.length) : l.set i (rd l (i : Int)) = l := by
  simp [rd, hi]
theorem swap_mm (x : S60) (l : List Int) (h0 : 0 ≤ x.f0) (h1 : x.f0 < x.f1) (h2 : x.f1 < (l.length : Int)) : (l.set x.f0.toNat (mn (rd l x.f0) (rd l x.f1))).set x.f1.toNat (mx (rd l x.f0) (rd l x.f1)) = swapT x l := by
  unfold swapT mn mx
  by_cases c : rd l x.f1 < rd l x.f0
  · rw [if_pos c, if_pos c, if_neg (by omega)]
  · rw [if_neg c, if_neg c]
    obtain ⟨i, hi⟩ := Int.eq_ofNat_of_zero_le h0
    obtain ⟨j, hj⟩ := Int.eq_ofNat_of_zero_le (show 0 ≤ x.f1 by omega)
    rw [hi, hj] at c ⊢
    simp only [Int.toNat_natCast]
    rw [set_self l i (by omega)]
    have : (if rd l (i : Int) < rd l (j : Int) then rd l (j : Int) else rd l (i : Int)) = rd l (j : Int) := by
      split
      · rfl
      · omega
    rw [this]
    exact set_self l j (by omega)
theorem specRun_l0 (n : Int) (ws : List S60) (hw : ws.length ≤ 1048576) : ∀ (d k i : Nat) (l : List Int), inW l.length ws → i ≤ ws.length → ws.length - i = d → d < k → spec_l08Run.l0 k l (i : Int) n ws = some (runT (ws.drop i) l) := by
  intro d
  induction d with
  | zero =>
    intro k i l hin hi hd hk
    obtain ⟨k, rfl⟩ : ∃ m, k = m + 1 := ⟨k - 1, by omega⟩
    simp only [spec_l08Run.l0]
    rw [if_neg (by omega), List.drop_eq_nil_of_le (by omega)]; rfl
  | succ d ih =>
    intro k i l hin hi hd hk
    obtain ⟨k, rfl⟩ : ∃ m, k = m + 1 := ⟨k - 1, by omega⟩
    have hlt : i < ws.length := by omega
    have hx := hin ws[i] (by simp)
    simp only [spec_l08Run.l0]
    rw [rd60 ws i hlt, if_pos (by omega), if_pos (by omega), if_pos (by omega), if_pos (by omega), if_pos (by omega), if_pos (by omega), swap_mm _ _ hx.1 hx.2.1 hx.2.2, wr1 i (by omega), ih k (i + 1) _ (by rw [swapT_len]; exact hin) (by omega) (by omega) (by omega), List.drop_eq_getElem_cons hlt]
    rfl
theorem specRun_eq (n : Int) (ws : List S60) (l : List Int) (hw : ws.length ≤ 2100) (hl : l.length ≤ 1048576) (hin : inW l.length ws) (k : Nat) (hk : ws.length < k) : spec_l08Run.f k n ws l = some (runT ws l) := by
  unfold spec_l08Run.f
  simp only [Option.bind_some]
  rw [if_pos (by simp; omega)]
  have := specRun_l0 n ws (by omega) ws.length k 0 l hin (by omega) (by omega) hk
  simpa using this
theorem implRun_eq (n : Int) (ws : List S60) (l : List Int) (hl : l.length ≤ 1048576) (hin : inW l.length ws) : impl_netRun.f n ws l = some (runT ws l) := by
  unfold impl_netRun.f
  rw [if_pos (by omega)]
  exact runL_eq ws l hin
def runR (n : Int) (ws : List S60) (l : List Int) : List Int := if netB n ws = true ∧ (l.length : Int) = n then runT ws l else []
theorem runR_len (n : Int) (ws : List S60) (l : List Int) : (runR n ws l).length ≤ l.length := by
  unfold runR
  split
  · rw [runT_len]; omega
  · simp
theorem iRun (n : Int) (ws : List S60) (l : List Int) (hl : l.length ≤ 1048576) : impl_NetRun.f n ws l = some (runR n ws l) := by
  unfold impl_NetRun.f runR
  rw [isNet_eq]
  simp only [Option.bind_some]
  by_cases c : netB n ws = true
  · obtain ⟨h1, h2, h3, h4⟩ := netB_in n ws c
    rw [if_pos c]
    by_cases c2 : (l.length : Int) = n
    · rw [if_pos c2, if_pos ⟨c, c2⟩, implRun_eq n ws l hl (by rw [show l.length = n.toNat by omega]; exact h4)]; rfl
    · rw [if_neg c2, if_neg (fun h => c2 h.2)]
  · rw [if_neg c, if_neg (fun h => c h.1)]
theorem sRun (n : Int) (ws : List S60) (l : List Int) (hw : ws.length ≤ 1048576) (hl : l.length ≤ 1048576) (k : Nat) (hk : ws.length + 1 < k) : spec_NetRun.f k n ws l = some (runR n ws l) := by
  unfold spec_NetRun.f runR
  rw [netOk_eq n ws hw k hk]
  simp only [Option.bind_some]
  by_cases c : netB n ws = true
  · obtain ⟨h1, h2, h3, h4⟩ := netB_in n ws c
    rw [if_pos c]
    by_cases c2 : (l.length : Int) = n
    · rw [if_pos c2, if_pos ⟨c, c2⟩, specRun_eq n ws l h3 hl (by rw [show l.length = n.toNat by omega]; exact h4) k (by omega)]; rfl
    · rw [if_neg c2, if_neg (fun h => c2 h.2)]
  · rw [if_neg c, if_neg (fun h => c h.1)]
theorem FnExactNetRun (x0 : S32) (w0 : ok32 x0) (l1 : (List Int)) (w1 : (l1.length ≤ maxLen ∧ ∀ y, y ∈ l1 → (Lit.int .i64 y).wf = true)) : ∃ k, laws_FnExactNetRun.f k x0.f0 x0.f1 l1 = some true := by
  obtain ⟨n, l⟩ := x0
  obtain ⟨_, hl, _⟩ := w0
  simp only at hl ⊢
  refine ⟨l.length + l1.length + 6, ?_⟩
  unfold laws_FnExactNetRun.f
  by_cases cl : (l1.length : Int) > 1048576
  · rw [if_pos cl]
  rw [if_neg cl, szNet_eq n l hl 1048576 (by omega) (by omega)]
  simp only [Option.bind_some]
  by_cases c : (1048576 : Int) < (l.length : Int)
  · rw [if_pos c, if_pos (by omega)]
  have hL : (l.map cvW).length = l.length := List.length_map _
  have hR := runR_len n (l.map cvW) l1
  rw [if_neg c, if_neg (by omega), toNet_eq n l (by omega) _ (by omega)]
  simp only [Option.bind_some]
  rw [toIntS_eq l1 (by omega) _ (by omega)]
  simp only [Option.bind_some]
  rw [sRun n _ l1 (by omega) (by omega) _ (by omega), iRun n _ l1 (by omega)]
  simp only [Option.bind_some]
  rw [eqIntS_eq _ (by omega) _ (by omega)]
  simp only [Option.bind_some, if_true]
  rw [eqNet_eq n _ (by omega) _ (by omega)]
  simp only [Option.bind_some, if_true]
  rw [eqIntS_eq l1 (by omega) _ (by omega)]
  simp only [Option.bind_some, if_true]
  rw [markNet_eq n _ (by omega) _ (by omega)]
  simp only [Option.bind_some]
  rw [markI_eq _ l1 (by omega) (by omega) (by omega) _ (by omega)]
  simp only [Option.bind_some]
  rw [if_neg (by omega)]
  unfold laws_FnExactNetRun.j0
  simp only [Bool.not_true, Bool.false_eq_true, if_false]
  rw [markI_eq 1 (runR n (l.map cvW) l1) (by omega) (by omega) (by omega) _ (by omega)]
  simp only [Option.bind_some]
  rw [heldI_eq _ (by omega) _ (by omega)]
  simp only [Option.bind_some]
  rw [if_neg (by omega), if_pos trivial, toNet_eq n l (by omega) _ (by omega)]
  simp only [Option.bind_some]
  rw [toIntS_eq l1 (by omega) _ (by omega)]
  simp only [Option.bind_some]
  rw [iRun n _ l1 (by omega)]
  simp only [Option.bind_some]
  rw [eqIntS_eq _ (by omega) _ (by omega)]
  simp only [Option.bind_some, if_true]
  rw [if_neg (by omega)]

end Go.Proofs.Ytijikfllffjdhaa.Pure

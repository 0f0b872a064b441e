/- For all nets the law FnExactNetJoin returns true: the program's NetJoin answers what the reference's answers, with new memory. -/
import Derived.Test.YtekfpjblakindaaOpenFnExactNetJoin
namespace Go.Proofs.Ytekfpjblakindaa.Pure
open Go.RowKit Go.Proofs.Ytekfpjblakindaa.OpenFnExactNetJoin Go.Proofs.Ytekfpjblakindaa.RowOpen Go.Proofs.Ytekfpjblakindaa.PFnExactNetJoin Go.Proofs.YtekfpjblakindaaW.PrintWords Go.Proofs.YtekfpjblakindaaW.PrintLast Go.Proofs.YtekfpjblakindaaW.PrintMore
set_option linter.unusedVariables false
set_option linter.unusedSimpArgs false

theorem wr1 (i : Nat) (h : i ≤ 4000000) : wrap64 ((i : Int) + 1) = ((i + 1 : Nat) : Int) := by unfold wrap64; omega
theorem rd55 (l : List S55) (i : Nat) (h : i < l.length) : rd_T55 l (i : Int) = l[i] := by simp [rd_T55, h]
theorem eqWireS_l0 (a : List S55) (ha : a.length ≤ 1048576) : ∀ (d k i : Nat), i ≤ a.length → a.length - i = d → d < k → laws_eqWireS.l0 k a a (i : Int) = some true := by
  intro d
  induction d with
  | zero =>
    intro k i hi hd hk
    obtain ⟨k, rfl⟩ : ∃ m, k = m + 1 := ⟨k - 1, by omega⟩
    simp only [laws_eqWireS.l0]
    rw [if_neg (by omega)]
  | succ d ih =>
    intro k i hi hd hk
    obtain ⟨k, rfl⟩ : ∃ m, k = m + 1 := ⟨k - 1, by omega⟩
    simp only [laws_eqWireS.l0]
    rw [if_pos (by omega), if_pos (by omega), if_pos (by omega)]
    unfold laws_eqWire.f
    rw [if_pos rfl, if_pos rfl]
    simp only [Option.bind_some, if_true]
    rw [wr1 i (by omega)]
    exact ih k (i + 1) (by omega) (by omega) (by omega)
theorem eqNet_eq (n : Int) (a : List S55) (ha : a.length ≤ 1048576) (k : Nat) (hk : a.length < k) : laws_eqNet.f k n a n a = some true := by
  unfold laws_eqNet.f laws_eqWireS.f
  rw [if_pos rfl, if_pos rfl]
  have := eqWireS_l0 a ha a.length k 0 (by omega) (by omega) hk
  rw [show ((0 : Nat) : Int) = 0 from rfl] at this
  rw [this]; rfl
def cvW (x : S72) : S55 := ⟨x.f0, x.f1⟩
theorem rd72 (l : List S72) (i : Nat) (h : i < l.length) : rd_T72 l (i : Int) = l[i] := by simp [rd_T72, h]
theorem szNet_eq (n : Int) (l : List S72) (h : l.length ≤ maxLen) (left : Int) (h0 : 0 ≤ left) (h1 : left ≤ 1048576) : laws_szNet.f n l left = some (if left < (l.length : Int) then -1 else left - (l.length : Int)) := by
  unfold maxLen at h
  unfold laws_szNet.f laws_szWireS.f
  rw [show wrap64 (left - (l.length : Int)) = left - (l.length : Int) from by unfold wrap64; omega]
  by_cases c : left < (l.length : Int)
  · rw [if_pos c, if_pos (by omega)]; rfl
  · rw [if_neg c, if_neg (by omega)]
    simp only [Option.bind_some]
    rw [if_neg (by omega)]
theorem take_setW (x : List S55) (l : List S72) (i : Nat) (hi : i < l.length) (hx : x.length = l.length) (h : x.take i = (l.map cvW).take i) : (x.set i (cvW l[i])).take (i + 1) = (l.map cvW).take (i + 1) := by
  rw [List.take_add_one, List.take_add_one, List.take_set_of_le (Nat.le_refl _), h]
  simp [hi, hx]
theorem toWireS_l0 (l : List S72) (hl : l.length ≤ 1048576) : ∀ (d k i : Nat) (x : List S55), x.length = l.length → i ≤ l.length → l.length - i = d → d < k → x.take i = (l.map cvW).take i →
    laws_toWireS.l0 k l x (i : Int) = some (l.map cvW) := by
  intro d
  induction d with
  | zero =>
    intro k i x hx hi hd hk h
    obtain ⟨k, rfl⟩ : ∃ m, k = m + 1 := ⟨k - 1, by omega⟩
    simp only [laws_toWireS.l0]
    rw [if_neg (by omega)]
    rw [List.take_of_length_le (by omega), List.take_of_length_le (by simp; omega)] at h
    rw [h]
  | succ d ih =>
    intro k i x hx hi hd hk h
    obtain ⟨k, rfl⟩ : ∃ m, k = m + 1 := ⟨k - 1, by omega⟩
    have hlt : i < l.length := by omega
    simp only [laws_toWireS.l0]
    rw [if_pos (by omega), if_pos (by omega), rd72 l i hlt]
    unfold laws_toWire.f
    simp only [Option.bind_some]
    rw [if_pos (by omega), wr1 i (by omega), Int.toNat_natCast]
    exact ih k (i + 1) _ (by simp [hx]) (by omega) (by omega) (by omega) (take_setW x l i hlt hx h)
theorem toNet_eq (n : Int) (l : List S72) (hl : l.length ≤ 1048576) (k : Nat) (hk : l.length < k) : laws_toNet.f k n l = some (n, l.map cvW) := by
  unfold laws_toNet.f laws_toWireS.f
  rw [if_pos (by omega), if_pos (by omega)]
  have := toWireS_l0 l hl l.length k 0 (List.replicate (l.length : Int).toNat z55) (by simp) (by omega) (by omega) hk rfl
  rw [show ((0 : Nat) : Int) = 0 from rfl] at this
  rw [this]; rfl
/-- Is it a net? -/
def netB (n : Int) (l : List S55) : Bool := decide (1 ≤ n ∧ n ≤ 64) && (decide (l.length ≤ 2100) && !(l.any (badW n)))
theorem netOk_l0 (n : Int) (l : List S55) (hl : l.length ≤ 1048576) : ∀ (d k i : Nat), i ≤ l.length → l.length - i = d → d < k → spec_NetOk.l0 k (i : Int) n l = some (!((l.drop i).any (badW n))) := by
  intro d
  induction d with
  | zero =>
    intro k i hi hd hk
    obtain ⟨k, rfl⟩ : ∃ m, k = m + 1 := ⟨k - 1, by omega⟩
    simp only [spec_NetOk.l0]
    rw [if_neg (by omega), List.drop_eq_nil_of_le (by omega)]; rfl
  | succ d ih =>
    intro k i hi hd hk
    obtain ⟨k, rfl⟩ : ∃ m, k = m + 1 := ⟨k - 1, by omega⟩
    have hlt : i < l.length := by omega
    simp only [spec_NetOk.l0]
    rw [if_pos (by omega), if_pos (by omega), rd55 l i hlt, wr1 i (by omega), ih k (i + 1) (by omega) (by omega) (by omega), List.drop_eq_getElem_cons hlt, List.any_cons]
    have e : badW n l[i] = (decide ((l[i]).f0 < 0) || (decide ((l[i]).f1 ≤ (l[i]).f0) || decide (n ≤ (l[i]).f1))) := rfl
    rw [e]
    by_cases c1 : (l[i]).f0 < 0
    · rw [if_pos c1, decide_eq_true c1]; rfl
    · rw [if_neg c1, decide_eq_false c1]
      by_cases c2 : (l[i]).f1 ≤ (l[i]).f0
      · rw [if_pos c2, decide_eq_true c2]; rfl
      · rw [if_neg c2, decide_eq_false c2]
        by_cases c3 : (l[i]).f1 ≥ n
        · rw [if_pos c3, decide_eq_true (show n ≤ (l[i]).f1 from c3)]; rfl
        · rw [if_neg c3, decide_eq_false (show ¬ n ≤ (l[i]).f1 from c3)]; rfl
theorem netOk_eq (n : Int) (l : List S55) (hl : l.length ≤ 1048576) (k : Nat) (hk : l.length + 1 < k) : spec_NetOk.f k n l = some (netB n l) := by
  obtain ⟨k, rfl⟩ : ∃ m, k = m + 1 := ⟨k - 1, by omega⟩
  unfold spec_NetOk.f netB
  by_cases c1 : n < 1
  · rw [if_pos c1, decide_eq_false (by omega)]
    simp [spec_NetOk.j0]
  · rw [if_neg c1]
    by_cases c2 : n > 64
    · rw [if_pos c2, decide_eq_false (show ¬ (1 ≤ n ∧ n ≤ 64) from by omega)]
      simp [spec_NetOk.j0]
    · rw [if_neg c2, decide_eq_true (show 1 ≤ n ∧ n ≤ 64 from by omega)]
      by_cases c3 : (l.length : Int) > 2100
      · rw [decide_eq_true c3, decide_eq_false (show ¬ l.length ≤ 2100 from by omega)]
        simp [spec_NetOk.j0]
      · rw [decide_eq_false c3, decide_eq_true (show l.length ≤ 2100 from by omega)]
        simp only [spec_NetOk.j0]
        have := netOk_l0 n l hl l.length k 0 (by omega) (by omega) (by omega)
        rw [show ((0 : Nat) : Int) = 0 from rfl] at this
        rw [if_neg (by decide), this]
        simp
theorem isNet_eq (n : Int) (l : List S55) : impl_isNet.f n l = some (netB n l) := rfl
def joinR (n : Int) (a : List S55) (m : Int) (b : List S55) : Int × List S55 × Bool := if netB n a = true ∧ netB m b = true ∧ n = m ∧ a.length + b.length ≤ 2100 then (n, a ++ b, true) else (0, [], false)
theorem netB_len {n : Int} {a : List S55} (h : netB n a = true) : a.length ≤ 2100 := by
  simp only [netB, Bool.and_eq_true, decide_eq_true_eq] at h
  exact h.2.1
theorem join_tail (n : Int) (a : List S55) (m : Int) (b : List S55) (ha : netB n a = true) (hb : netB m b = true) :
    (if n = m then (if (wrap64 ((a.length : Int) + (b.length : Int))) > 2100 then (some ((0 : Int), ([] : List S55), false)) else ((some (([] : List S55) : List S55)).bind fun y111 => (if y111.length + a.length < 8796093022208 then ((some (y111 ++ a : List S55)).bind fun y114 => (if y114.length + b.length < 8796093022208 then (some (n, (y114 ++ b), true)) else (none))) else (none)))) else (some ((0 : Int), ([] : List S55), false))) = some (joinR n a m b) := by
  have h1 := netB_len ha
  have h2 := netB_len hb
  unfold joinR
  by_cases c : n = m
  · rw [if_pos c, show wrap64 ((a.length : Int) + (b.length : Int)) = (a.length : Int) + (b.length : Int) from by unfold wrap64; omega]
    by_cases c2 : (a.length : Int) + (b.length : Int) > 2100
    · rw [if_pos c2, if_neg (fun h => by omega)]
    · rw [if_neg c2, Option.bind_some, if_pos (by simp; omega), Option.bind_some, List.nil_append, if_pos (by omega), if_pos ⟨ha, hb, c, by omega⟩]
  · rw [if_neg c, if_neg (fun h => c h.2.2.1)]
theorem iJoin (k : Nat) (n : Int) (a : List S55) (m : Int) (b : List S55) : impl_NetJoin.f k n a m b = some (joinR n a m b) := by
  unfold impl_NetJoin.f
  rw [isNet_eq, Option.bind_some]
  by_cases ha : netB n a = true
  · rw [if_pos ha, isNet_eq, Option.bind_some]
    by_cases hb : netB m b = true
    · rw [if_pos hb, join_tail n a m b ha hb]
    · rw [if_neg hb]; unfold joinR; rw [if_neg (fun h => hb h.2.1)]
  · rw [if_neg ha]; unfold joinR; rw [if_neg (fun h => ha h.1)]
theorem sJoin (n : Int) (a : List S55) (m : Int) (b : List S55) (hla : a.length ≤ 1048576) (hlb : b.length ≤ 1048576) (k : Nat) (hk : a.length + b.length + 1 < k) : spec_NetJoin.f k n a m b = some (joinR n a m b) := by
  unfold spec_NetJoin.f
  rw [netOk_eq n a hla k (by omega), Option.bind_some]
  by_cases ha : netB n a = true
  · rw [if_pos ha, netOk_eq m b hlb k (by omega), Option.bind_some]
    by_cases hb : netB m b = true
    · rw [if_pos hb, join_tail n a m b ha hb]
    · rw [if_neg hb]; unfold joinR; rw [if_neg (fun h => hb h.2.1)]
  · rw [if_neg ha]; unfold joinR; rw [if_neg (fun h => ha h.1)]
def mkW (n : Nat) : List S55 := (List.range n).map fun (i : Nat) => ⟨1 + 2 * (i : Int), 2 + 2 * (i : Int)⟩
theorem mkW_length (n : Nat) : (mkW n).length = n := by simp [mkW]
theorem mkW_get (n i : Nat) (h : i < (mkW n).length) : (mkW n)[i] = ⟨1 + 2 * (i : Int), 2 + 2 * (i : Int)⟩ := by simp [mkW]
theorem markW_step (x : List S55) (n i : Nat) (hi : i < n) (hx : x.length = n) (h : x.take i = (mkW n).take i) : (x.set i ⟨1 + 2 * (i : Int), 2 + 2 * (i : Int)⟩).take (i + 1) = (mkW n).take (i + 1) := by
  rw [List.take_add_one, List.take_add_one, List.take_set_of_le (Nat.le_refl _), h]
  have h2 : i < (mkW n).length := by rw [mkW_length]; exact hi
  rw [List.getElem?_eq_getElem h2, mkW_get]
  simp [hi, hx]
theorem markW_l0 (n : Nat) (hn : n ≤ 1048576) : ∀ (d k i : Nat) (x : List S55), x.length = n → i ≤ n → n - i = d → d < k → x.take i = (mkW n).take i →
    laws_markWireS.l0 k x (1 + 2 * (i : Int)) (i : Int) = some (1 + 2 * (n : Int), mkW n) := by
  intro d
  induction d with
  | zero =>
    intro k i x hx hi hd hk h
    obtain ⟨k, rfl⟩ : ∃ m, k = m + 1 := ⟨k - 1, by omega⟩
    simp only [laws_markWireS.l0]
    rw [if_neg (by omega)]
    rw [List.take_of_length_le (by omega), List.take_of_length_le (by rw [mkW_length]; omega)] at h
    rw [h, show (i : Int) = (n : Int) from by omega]
  | succ d ih =>
    intro k i x hx hi hd hk h
    obtain ⟨k, rfl⟩ : ∃ m, k = m + 1 := ⟨k - 1, by omega⟩
    simp only [laws_markWireS.l0]
    rw [if_pos (by omega), if_pos (by omega)]
    simp only [Option.bind_some]
    have hlx : i < x.length := by omega
    rw [Int.toNat_natCast, rd55 x i hlx, rd55 (x.set i ⟨1 + 2 * (i : Int), (x[i]).f1⟩) i (by rw [List.length_set]; exact hlx)]
    simp only [List.getElem_set_self, List.set_set]
    rw [show wrap64 (1 + 2 * (i : Int) + 1) = 2 + 2 * (i : Int) from by unfold wrap64; omega, show wrap64 (2 + 2 * (i : Int) + 1) = 1 + 2 * ((i + 1 : Nat) : Int) from by unfold wrap64; omega, wr1 i (by omega)]
    exact ih k (i + 1) _ (by simp [hx]) (by omega) (by omega) (by omega) (markW_step x n i (by omega) hx h)
theorem markNet_eq (n : Int) (l : List S55) (hl : l.length ≤ 1048576) (k : Nat) (hk : l.length < k) : laws_markNet.f k n l 1 = some (1 + 2 * (l.length : Int), mkW l.length) := by
  unfold laws_markNet.f laws_markWireS.f
  have := markW_l0 l.length hl l.length k 0 l rfl (by omega) (by omega) hk rfl
  rw [show ((0 : Nat) : Int) = 0 from rfl] at this
  rw [show (1 : Int) + 2 * 0 = 1 from rfl] at this
  rw [this]; rfl
theorem heldW_l0 (n : Nat) (hn : n ≤ 1048576) : ∀ (d k i : Nat), i ≤ n → n - i = d → d < k → laws_heldWireS.l0 k (mkW n) (1 + 2 * (i : Int)) (i : Int) = some (1 + 2 * (n : Int)) := by
  intro d
  induction d with
  | zero =>
    intro k i hi hd hk
    obtain ⟨k, rfl⟩ : ∃ m, k = m + 1 := ⟨k - 1, by omega⟩
    simp only [laws_heldWireS.l0]
    rw [if_neg (by rw [mkW_length]; omega), show (i : Int) = (n : Int) from by omega]
  | succ d ih =>
    intro k i hi hd hk
    obtain ⟨k, rfl⟩ : ∃ m, k = m + 1 := ⟨k - 1, by omega⟩
    have h2 : i < (mkW n).length := by rw [mkW_length]; omega
    simp only [laws_heldWireS.l0]
    rw [if_pos (by omega), if_pos (by omega), rd55 _ i h2, mkW_get n i h2]
    simp only
    rw [if_pos trivial, show wrap64 (1 + 2 * (i : Int) + 1) = 2 + 2 * (i : Int) from by unfold wrap64; omega, if_pos rfl, show wrap64 (2 + 2 * (i : Int) + 1) = 1 + 2 * ((i + 1 : Nat) : Int) from by unfold wrap64; omega, wr1 i (by omega)]
    exact ih k (i + 1) (by omega) (by omega) (by omega)
theorem heldNet_eq (m : Int) (n : Nat) (hn : n ≤ 1048576) (k : Nat) (hk : n < k) : laws_heldNet.f k m (mkW n) 1 = some (1 + 2 * (n : Int)) := by
  unfold laws_heldNet.f laws_heldWireS.f
  have := heldW_l0 n hn n k 0 (by omega) (by omega) hk
  rw [show ((0 : Nat) : Int) = 0 from rfl] at this
  rw [show (1 : Int) + 2 * 0 = 1 from rfl] at this
  rw [this]
  simp only [Option.bind_some]
  rw [if_neg (by omega)]
theorem markAny_l0 (n : Nat) (c : Int) (hc : 0 ≤ c ∧ c ≤ 100000000) (hn : n ≤ 1048576) : ∀ (d k i : Nat) (x : List S55), x.length = n → i ≤ n → n - i = d → d < k → ∃ y, laws_markWireS.l0 k x (c + 2 * (i : Int)) (i : Int) = some (c + 2 * (n : Int), y) := by
  intro d
  induction d with
  | zero =>
    intro k i x hx hi hd hk
    obtain ⟨k, rfl⟩ : ∃ m, k = m + 1 := ⟨k - 1, by omega⟩
    simp only [laws_markWireS.l0]
    rw [if_neg (by omega), show i = n by omega]
    exact ⟨_, rfl⟩
  | succ d ih =>
    intro k i x hx hi hd hk
    obtain ⟨k, rfl⟩ : ∃ m, k = m + 1 := ⟨k - 1, by omega⟩
    simp only [laws_markWireS.l0]
    rw [if_pos (by omega), if_pos (by omega)]
    simp only [Option.bind_some]
    rw [show wrap64 (c + 2 * (i : Int) + 1) = c + 2 * (i : Int) + 1 from by unfold wrap64; omega, show wrap64 (c + 2 * (i : Int) + 1 + 1) = c + 2 * ((i + 1 : Nat) : Int) from by unfold wrap64; omega, wr1 i (by omega)]
    exact ih k (i + 1) _ (by simp [hx]) (by omega) (by omega) (by omega)
theorem markAny_eq (n : Int) (l : List S55) (c : Int) (hc : 0 ≤ c ∧ c ≤ 100000000) (hl : l.length ≤ 1048576) (k : Nat) (hk : l.length < k) : ∃ y, laws_markNet.f k n l c = some (c + 2 * (l.length : Int), y) := by
  unfold laws_markNet.f laws_markWireS.f
  obtain ⟨y, e⟩ := markAny_l0 l.length c hc hl l.length k 0 l rfl (by omega) (by omega) hk
  rw [show c + 2 * ((0 : Nat) : Int) = c from by omega, show ((0 : Nat) : Int) = 0 from rfl] at e
  rw [e]
  exact ⟨y, rfl⟩
theorem joinR_len (n : Int) (a : List S55) (m : Int) (b : List S55) : (joinR n a m b).2.1.length ≤ 2100 := by
  unfold joinR
  split
  · rename_i h; simp only [List.length_append]; omega
  · simp
theorem FnExactNetJoin (x0 : S37) (w0 : ok37 x0) (x1 : S37) (w1 : ok37 x1) : ∃ k, laws_FnExactNetJoin.f k x0.f0 x0.f1 x1.f0 x1.f1 = some true := by
  obtain ⟨n, l⟩ := x0
  obtain ⟨m, l'⟩ := x1
  obtain ⟨_, hl, _⟩ := w0
  obtain ⟨_, hl', _⟩ := w1
  simp only at hl hl' ⊢
  refine ⟨l.length + l'.length + 2200, ?_⟩
  unfold laws_FnExactNetJoin.f
  rw [szNet_eq n l hl 1048576 (by omega) (by omega), Option.bind_some]
  by_cases c : (1048576 : Int) < (l.length : Int)
  · rw [if_pos c, if_pos (by omega)]
  rw [if_neg c, if_neg (by omega), szNet_eq m l' hl' _ (by omega) (by omega), Option.bind_some]
  by_cases c2 : (1048576 : Int) - (l.length : Int) < (l'.length : Int)
  · rw [if_pos c2, if_pos (by omega)]
  have hA : (l.map cvW).length = l.length := List.length_map _
  have hA' : (l'.map cvW).length = l'.length := List.length_map _
  have t1 : ∀ k, l.length < k → laws_toNet.f k n l = some (n, l.map cvW) := fun k hk => toNet_eq n l (by omega) k hk
  have t2 : ∀ k, l'.length < k → laws_toNet.f k m l' = some (m, l'.map cvW) := fun k hk => toNet_eq m l' (by omega) k hk
  generalize l.map cvW = a at hA t1
  generalize l'.map cvW = b at hA' t2
  rw [if_neg c2, if_neg (by omega), t1 _ (by omega), Option.bind_some]
  dsimp only
  rw [t2 _ (by omega), Option.bind_some]
  dsimp only
  rw [sJoin n a m b (by omega) (by omega) _ (by omega), Option.bind_some, Option.bind_some, Option.bind_some, iJoin, Option.bind_some]
  have hi := fun k => iJoin k n a m b
  have hr := joinR_len n a m b
  generalize joinR n a m b = r at hi hr
  obtain ⟨rn, rw_, rb⟩ := r
  dsimp only at hr ⊢
  rw [eqNet_eq rn rw_ (by omega) _ (by omega), Option.bind_some, if_pos rfl, bne_self_eq_false]
  show laws_FnExactNetJoin.j0 (l.length + l'.length + 2199 + 1) rb rb false n l m l' rn rw_ n a m b rn rw_ = some true
  simp only [laws_FnExactNetJoin.j0]
  rw [if_neg (by decide), t1 _ (by omega), Option.bind_some]
  dsimp only
  rw [eqNet_eq n a (by omega) _ (by omega), Option.bind_some, if_pos rfl, t2 _ (by omega), Option.bind_some]
  dsimp only
  rw [eqNet_eq m b (by omega) _ (by omega), Option.bind_some, if_pos rfl, markNet_eq n a (by omega) _ (by omega), Option.bind_some]
  dsimp only
  obtain ⟨y, ey⟩ := markAny_eq m b (1 + 2 * (a.length : Int)) (by omega) (by omega) (l.length + l'.length + 2199) (by omega)
  rw [ey, Option.bind_some]
  dsimp only
  rw [if_neg (by omega), eqNet_eq rn rw_ (by omega) _ (by omega), Option.bind_some, if_pos rfl, bne_self_eq_false]
  show laws_FnExactNetJoin.j1 (l.length + l'.length + 2198 + 1) rb false n l m l' rn rw_ rn rw_ = some true
  simp only [laws_FnExactNetJoin.j1]
  rw [if_neg (by decide), markNet_eq rn rw_ (by omega) _ (by omega), Option.bind_some]
  dsimp only
  rw [heldNet_eq rn rw_.length (by omega) _ (by omega), Option.bind_some, if_neg (by omega), if_pos rfl, t1 _ (by omega), Option.bind_some]
  dsimp only
  rw [t2 _ (by omega), Option.bind_some]
  dsimp only
  rw [hi, Option.bind_some]
  dsimp only
  rw [eqNet_eq rn rw_ (by omega) _ (by omega), Option.bind_some, if_pos rfl, bne_self_eq_false]
  show laws_FnExactNetJoin.j2 (l.length + l'.length + 2197 + 1) (1 + 2 * (rw_.length : Int)) false rn (mkW rw_.length) = some true
  simp only [laws_FnExactNetJoin.j2]
  rw [if_neg (by decide), heldNet_eq rn rw_.length (by omega) _ (by omega), Option.bind_some, if_neg (by omega), if_pos rfl]

end Go.Proofs.Ytekfpjblakindaa.Pure

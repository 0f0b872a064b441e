/- The program's Bubble returns what the reference's returns, in memory of its own, for every int. Conditions: none. -/
import Derived.Test.YtijikfllffjdhaaPFnExactBubblex3
namespace Go.Proofs.Ytijikfllffjdhaa.Pure
open Go.RowKit Go.Proofs.Ytijikfllffjdhaa.PFnExactBubble Go.Proofs.YtijikfllffjdhaaW.PrintWords Go.Proofs.YtijikfllffjdhaaW.PrintLast Go.Proofs.YtijikfllffjdhaaW.PrintMore
set_option linter.unusedVariables false
set_option linter.unusedSimpArgs false

theorem wr1 (i : Nat) (h : i ≤ 4000000) : wrap64 ((i : Int) + 1) = ((i + 1 : Nat) : Int) := by unfold wrap64; omega
theorem rd60 (l : List S60) (i : Nat) (h : i < l.length) : rd_T60 l (i : Int) = l[i] := by simp [rd_T60, h]
theorem eqWireS_l0 (a : List S60) (ha : a.length ≤ 1048576) : ∀ (d k i : Nat), i ≤ a.length → a.length - i = d → d < k → laws_eqWireS.l0 k a a (i : Int) = some true := by
  intro d
  induction d with
  | zero =>
    intro k i hi hd hk
    obtain ⟨k, rfl⟩ : ∃ m, k = m + 1 := ⟨k - 1, by omega⟩
    simp only [laws_eqWireS.l0]
    rw [if_neg (by omega)]
  | succ d ih =>
    intro k i hi hd hk
    obtain ⟨k, rfl⟩ : ∃ m, k = m + 1 := ⟨k - 1, by omega⟩
    simp only [laws_eqWireS.l0]
    rw [if_pos (by omega), if_pos (by omega), if_pos (by omega)]
    unfold laws_eqWire.f
    rw [if_pos rfl, if_pos rfl]
    simp only [Option.bind_some, if_true]
    rw [wr1 i (by omega)]
    exact ih k (i + 1) (by omega) (by omega) (by omega)
theorem eqNet_eq (n : Int) (a : List S60) (ha : a.length ≤ 1048576) (k : Nat) (hk : a.length < k) : laws_eqNet.f k n a n a = some true := by
  unfold laws_eqNet.f laws_eqWireS.f
  rw [if_pos rfl, if_pos rfl]
  have := eqWireS_l0 a ha a.length k 0 (by omega) (by omega) hk
  rw [show ((0 : Nat) : Int) = 0 from rfl] at this
  rw [this]; rfl
def mkW (n : Nat) : List S60 := (List.range n).map fun (i : Nat) => ⟨1 + 2 * (i : Int), 2 + 2 * (i : Int)⟩
theorem mkW_length (n : Nat) : (mkW n).length = n := by simp [mkW]
theorem mkW_get (n i : Nat) (h : i < (mkW n).length) : (mkW n)[i] = ⟨1 + 2 * (i : Int), 2 + 2 * (i : Int)⟩ := by simp [mkW]
theorem markW_step (x : List S60) (n i : Nat) (hi : i < n) (hx : x.length = n) (h : x.take i = (mkW n).take i) : (x.set i ⟨1 + 2 * (i : Int), 2 + 2 * (i : Int)⟩).take (i + 1) = (mkW n).take (i + 1) := by
  rw [List.take_add_one, List.take_add_one, List.take_set_of_le (Nat.le_refl _), h]
  have h2 : i < (mkW n).length := by rw [mkW_length]; exact hi
  rw [List.getElem?_eq_getElem h2, mkW_get]
  simp [hi, hx]
theorem markW_l0 (n : Nat) (hn : n ≤ 1048576) : ∀ (d k i : Nat) (x : List S60), x.length = n → i ≤ n → n - i = d → d < k → x.take i = (mkW n).take i →
    laws_markWireS.l0 k x (1 + 2 * (i : Int)) (i : Int) = some (1 + 2 * (n : Int), mkW n) := by
  intro d
  induction d with
  | zero =>
    intro k i x hx hi hd hk h
    obtain ⟨k, rfl⟩ : ∃ m, k = m + 1 := ⟨k - 1, by omega⟩
    simp only [laws_markWireS.l0]
    rw [if_neg (by omega)]
    rw [List.take_of_length_le (by omega), List.take_of_length_le (by rw [mkW_length]; omega)] at h
    rw [h, show (i : Int) = (n : Int) from by omega]
  | succ d ih =>
    intro k i x hx hi hd hk h
    obtain ⟨k, rfl⟩ : ∃ m, k = m + 1 := ⟨k - 1, by omega⟩
    simp only [laws_markWireS.l0]
    rw [if_pos (by omega), if_pos (by omega)]
    simp only [Option.bind_some]
    have hlx : i < x.length := by omega
    rw [Int.toNat_natCast, rd60 x i hlx, rd60 (x.set i ⟨1 + 2 * (i : Int), (x[i]).f1⟩) i (by rw [List.length_set]; exact hlx)]
    simp only [List.getElem_set_self, List.set_set]
    rw [show wrap64 (1 + 2 * (i : Int) + 1) = 2 + 2 * (i : Int) from by unfold wrap64; omega, show wrap64 (2 + 2 * (i : Int) + 1) = 1 + 2 * ((i + 1 : Nat) : Int) from by unfold wrap64; omega, wr1 i (by omega)]
    exact ih k (i + 1) _ (by simp [hx]) (by omega) (by omega) (by omega) (markW_step x n i (by omega) hx h)
theorem markNet_eq (n : Int) (l : List S60) (hl : l.length ≤ 1048576) (k : Nat) (hk : l.length < k) : laws_markNet.f k n l 1 = some (1 + 2 * (l.length : Int), mkW l.length) := by
  unfold laws_markNet.f laws_markWireS.f
  have := markW_l0 l.length hl l.length k 0 l rfl (by omega) (by omega) hk rfl
  rw [show ((0 : Nat) : Int) = 0 from rfl] at this
  rw [show (1 : Int) + 2 * 0 = 1 from rfl] at this
  rw [this]; rfl
theorem heldW_l0 (n : Nat) (hn : n ≤ 1048576) : ∀ (d k i : Nat), i ≤ n → n - i = d → d < k → laws_heldWireS.l0 k (mkW n) (1 + 2 * (i : Int)) (i : Int) = some (1 + 2 * (n : Int)) := by
  intro d
  induction d with
  | zero =>
    intro k i hi hd hk
    obtain ⟨k, rfl⟩ : ∃ m, k = m + 1 := ⟨k - 1, by omega⟩
    simp only [laws_heldWireS.l0]
    rw [if_neg (by rw [mkW_length]; omega), show (i : Int) = (n : Int) from by omega]
  | succ d ih =>
    intro k i hi hd hk
    obtain ⟨k, rfl⟩ : ∃ m, k = m + 1 := ⟨k - 1, by omega⟩
    have h2 : i < (mkW n).length := by rw [mkW_length]; omega
    simp only [laws_heldWireS.l0]
    rw [if_pos (by omega), if_pos (by omega), rd60 _ i h2, mkW_get n i h2]
    simp only
    rw [if_pos trivial, show wrap64 (1 + 2 * (i : Int) + 1) = 2 + 2 * (i : Int) from by unfold wrap64; omega, if_pos rfl, show wrap64 (2 + 2 * (i : Int) + 1) = 1 + 2 * ((i + 1 : Nat) : Int) from by unfold wrap64; omega, wr1 i (by omega)]
    exact ih k (i + 1) (by omega) (by omega) (by omega)
theorem heldNet_eq (m : Int) (n : Nat) (hn : n ≤ 1048576) (k : Nat) (hk : n < k) : laws_heldNet.f k m (mkW n) 1 = some (1 + 2 * (n : Int)) := by
  unfold laws_heldNet.f laws_heldWireS.f
  have := heldW_l0 n hn n k 0 (by omega) (by omega) hk
  rw [show ((0 : Nat) : Int) = 0 from rfl] at this
  rw [show (1 : Int) + 2 * 0 = 1 from rfl] at this
  rw [this]
  simp only [Option.bind_some]
  rw [if_neg (by omega)]
theorem law_of (k : Nat) (a0 n : Int) (l : List S60) (h1 : spec_Bubble.f k a0 = some (n, l)) (h2 : impl_Bubble.f k a0 = some (n, l)) (hl : l.length ≤ 1048576) (hk : l.length < k) : laws_FnExactBubble.f k a0 = some true := by
  unfold laws_FnExactBubble.f
  simp only [h1, h2, Option.bind_some]
  rw [eqNet_eq n l hl k hk]
  simp only [Option.bind_some, if_true]
  rw [markNet_eq n l hl k hk]
  simp only [Option.bind_some]
  rw [heldNet_eq n l.length hl k hk]
  simp only [Option.bind_some]
  rw [if_neg (by omega)]
  simp
  omega
def passS (r : Nat) : List S60 := (List.range r).map fun (i : Nat) => ⟨(i : Int), (i : Int) + 1⟩
def bubS : Nat → List S60
  | 0 => []
  | r + 1 => passS (r + 1) ++ bubS r
def cost : Nat → Nat
  | 0 => 1
  | r + 1 => 1 + (r + 1 + 1) + cost r
theorem passS_length (r : Nat) : (passS r).length = r := by simp [passS]
theorem passS_drop (r i : Nat) (h : i < r) : (passS r).drop i = ⟨(i : Int), (i : Int) + 1⟩ :: (passS r).drop (i + 1) := by
  rw [List.drop_eq_getElem_cons (by rw [passS_length]; exact h)]
  simp [passS]
theorem bub_l1 (n : Int) (r : Nat) (hr : r ≤ 64) : ∀ (d k i : Nat) (l : List S60), i ≤ r → r - i = d → l.length + d < 8796093022208 →
    impl_Bubble.l1 (d + 1 + k) (r : Int) (r : Int) (i : Int) n l = impl_Bubble.l0 k (wrap64 ((r : Int) - 1)) n (l ++ (passS r).drop i) := by
  intro d
  induction d with
  | zero =>
    intro k i l hi hd hl
    rw [show 0 + 1 + k = k + 1 from by omega]
    simp only [impl_Bubble.l1]
    rw [if_neg (by omega), List.drop_eq_nil_of_le (by rw [passS_length]; omega), List.append_nil]
  | succ d ih =>
    intro k i l hi hd hl
    rw [show d + 1 + 1 + k = (d + 1 + k) + 1 from by omega]
    simp only [impl_Bubble.l1]
    rw [if_pos (by omega), if_pos (by omega), show wrap64 ((i : Int) + 1) = ((i + 1 : Nat) : Int) from by unfold wrap64; omega, ih k (i + 1) _ (by omega) (by omega) (by simp; omega), passS_drop r i (by omega)]
    simp
theorem bub_l0 (n : Int) : ∀ (r : Nat), r ≤ 64 → ∀ (k : Nat) (l : List S60), l.length + 64 * r < 8796093022208 → impl_Bubble.l0 (cost r + k) (r : Int) n l = some (n, l ++ bubS r)
  | 0, _, k, l, _ => by
    rw [show cost 0 + k = k + 1 from by simp [cost]; omega]
    simp only [impl_Bubble.l0]
    rw [if_neg (by omega)]
    simp [bubS]
  | r + 1, hr, k, l, hl => by
    rw [show cost (r + 1) + k = (r + 1 + 1 + (cost r + k)) + 1 from by simp only [cost]; omega]
    simp only [impl_Bubble.l0]
    rw [if_pos (by omega)]
    have := bub_l1 n (r + 1) hr (r + 1) (cost r + k) 0 l (by omega) (by omega) (by omega)
    rw [show ((0 : Nat) : Int) = 0 from rfl] at this
    rw [this, show wrap64 (((r + 1 : Nat) : Int) - 1) = (r : Int) from by unfold wrap64; omega, bub_l0 n r (by omega) k _ (by simp [passS_length]; omega)]
    simp [bubS]
theorem cost_le : ∀ r : Nat, r < 65 → cost r ≤ 3000 ∧ (bubS r).length ≤ 2100 := by decide +kernel
theorem bub_f (n : Nat) (h1 : 1 ≤ n) (h2 : n ≤ 64) (k : Nat) (hk : 3000 ≤ k) : impl_Bubble.f k (n : Int) = some ((n : Int), bubS (n - 1)) := by
  unfold impl_Bubble.f impl_within.f
  rw [if_pos (by omega), decide_eq_true (show (n : Int) ≤ 64 by omega)]
  simp only [Option.bind_some, if_true]
  have hc := (cost_le (n - 1) (by omega)).1
  obtain ⟨j, rfl⟩ : ∃ j, k = cost (n - 1) + j := ⟨k - cost (n - 1), by omega⟩
  rw [show wrap64 ((n : Int) - 1) = ((n - 1 : Nat) : Int) from by unfold wrap64; omega, bub_l0 (n : Int) (n - 1) (by omega) j [] (by simp; omega)]
  simp
theorem same : ∀ k, (∀ (r n : Int) (l : List S60), spec_Bubble.l0 k r n l = impl_Bubble.l0 k r n l) ∧ (∀ (r i n : Int) (l : List S60), spec_Bubble.l1 k r i n l = impl_Bubble.l1 k r r i n l)
  | 0 => ⟨fun _ _ _ => rfl, fun _ _ _ _ => rfl⟩
  | k + 1 => by
    obtain ⟨h0, h1⟩ := same k
    constructor
    · intro r n l
      simp only [spec_Bubble.l0, impl_Bubble.l0]
      by_cases c : r ≥ 1
      · rw [if_pos c, if_pos (by omega), h1]
      · rw [if_neg c, if_neg (by omega)]
    · intro r i n l
      simp only [spec_Bubble.l1, impl_Bubble.l1]
      by_cases c : i < r
      · rw [if_pos c, if_pos c]
        by_cases c2 : l.length < 8796093022208
        · rw [if_pos c2, if_pos c2, h1]
        · rw [if_neg c2, if_neg c2]
      · rw [if_neg c, if_neg c, h0]

theorem FnExactBubble : laws_FnExactBubble.Pure := by
  intro a0 _
  refine ⟨3001, ?_⟩
  by_cases h : 1 ≤ a0 ∧ a0 ≤ 64
  · obtain ⟨n, rfl⟩ := Int.eq_ofNat_of_zero_le (show 0 ≤ a0 by omega)
    have hl := (cost_le (n - 1) (by omega)).2
    have hf := bub_f n (by omega) (by omega) 3000 (by omega)
    refine law_of 3001 (n : Int) (n : Int) (bubS (n - 1)) ?_ (bub_f n (by omega) (by omega) 3001 (by omega)) (by omega) (by omega)
    unfold spec_Bubble.f
    rw [if_neg (by omega), decide_eq_false (by omega)]
    show spec_Bubble.j0 (3000 + 1) _ _ = _
    simp only [spec_Bubble.j0]
    rw [(same 3000).1]
    unfold impl_Bubble.f impl_within.f at hf
    rw [if_pos (by omega), decide_eq_true (show (n : Int) ≤ 64 by omega)] at hf
    simpa using hf
  · refine law_of 3001 a0 0 [] ?_ ?_ (by simp) (by simp)
    · unfold spec_Bubble.f
      by_cases h1 : a0 < 1
      · rw [if_pos h1]; rfl
      · rw [if_neg h1, decide_eq_true (by omega)]; rfl
    · unfold impl_Bubble.f impl_within.f
      by_cases h1 : a0 ≥ 1
      · rw [if_pos h1, decide_eq_false (by omega)]; rfl
      · rw [if_neg h1]; rfl

end Go.Proofs.Ytijikfllffjdhaa.Pure

/- The program's Bitonic returns what the reference's returns, in memory of its own, for every int. Conditions: none. -/
import Derived.Test.YtijikfllffjdhaaPFnExactBitonicx3
namespace Go.Proofs.Ytijikfllffjdhaa.Pure
open Go.RowKit Go.Proofs.Ytijikfllffjdhaa.PFnExactBitonic Go.Proofs.YtijikfllffjdhaaW.PrintWords Go.Proofs.YtijikfllffjdhaaW.PrintLast Go.Proofs.YtijikfllffjdhaaW.PrintMore
set_option linter.unusedVariables false
set_option linter.unusedSimpArgs false

def halves : Nat → Nat → List Nat
  | 0, _ => []
  | k + 1, h => if h = 0 then [] else h :: halves k (h / 2)
def sizes : Nat → List Nat
  | 0 => []
  | k + 1 => sizes k ++ [2 ^ (k + 1)]
def stage (n s : Nat) : List (Nat × Nat) :=
  ((List.range (n / s)).flatMap fun b => (List.range (s / 2)).map fun i => (b * s + i, b * s + s - 1 - i)) ++
  ((halves 7 (s / 4)).flatMap fun h => (List.range (n / (2 * h))).flatMap fun b => (List.range h).map fun i => (b * (2 * h) + i, b * (2 * h) + i + h))
theorem wr1 (i : Nat) (h : i ≤ 4000000) : wrap64 ((i : Int) + 1) = ((i + 1 : Nat) : Int) := by unfold wrap64; omega
theorem rd60 (l : List S60) (i : Nat) (h : i < l.length) : rd_T60 l (i : Int) = l[i] := by simp [rd_T60, h]
theorem eqWireS_l0 (a : List S60) (ha : a.length ≤ 1048576) : ∀ (d k i : Nat), i ≤ a.length → a.length - i = d → d < k → laws_eqWireS.l0 k a a (i : Int) = some true := by
  intro d
  induction d with
  | zero =>
    intro k i hi hd hk
    obtain ⟨k, rfl⟩ : ∃ m, k = m + 1 := ⟨k - 1, by omega⟩
    simp only [laws_eqWireS.l0]
    rw [if_neg (by omega)]
  | succ d ih =>
    intro k i hi hd hk
    obtain ⟨k, rfl⟩ : ∃ m, k = m + 1 := ⟨k - 1, by omega⟩
    simp only [laws_eqWireS.l0]
    rw [if_pos (by omega), if_pos (by omega), if_pos (by omega)]
    unfold laws_eqWire.f
    rw [if_pos rfl, if_pos rfl]
    simp only [Option.bind_some, if_true]
    rw [wr1 i (by omega)]
    exact ih k (i + 1) (by omega) (by omega) (by omega)
theorem eqNet_eq (n : Int) (a : List S60) (ha : a.length ≤ 1048576) (k : Nat) (hk : a.length < k) : laws_eqNet.f k n a n a = some true := by
  unfold laws_eqNet.f laws_eqWireS.f
  rw [if_pos rfl, if_pos rfl]
  have := eqWireS_l0 a ha a.length k 0 (by omega) (by omega) hk
  rw [show ((0 : Nat) : Int) = 0 from rfl] at this
  rw [this]; rfl
def mkW (n : Nat) : List S60 := (List.range n).map fun (i : Nat) => ⟨1 + 2 * (i : Int), 2 + 2 * (i : Int)⟩
theorem mkW_length (n : Nat) : (mkW n).length = n := by simp [mkW]
theorem mkW_get (n i : Nat) (h : i < (mkW n).length) : (mkW n)[i] = ⟨1 + 2 * (i : Int), 2 + 2 * (i : Int)⟩ := by simp [mkW]
theorem markW_step (x : List S60) (n i : Nat) (hi : i < n) (hx : x.length = n) (h : x.take i = (mkW n).take i) : (x.set i ⟨1 + 2 * (i : Int), 2 + 2 * (i : Int)⟩).take (i + 1) = (mkW n).take (i + 1) := by
  rw [List.take_add_one, List.take_add_one, List.take_set_of_le (Nat.le_refl _), h]
  have h2 : i < (mkW n).length := by rw [mkW_length]; exact hi
  rw [List.getElem?_eq_getElem h2, mkW_get]
  simp [hi, hx]
theorem markW_l0 (n : Nat) (hn : n ≤ 1048576) : ∀ (d k i : Nat) (x : List S60), x.length = n → i ≤ n → n - i = d → d < k → x.take i = (mkW n).take i →
    laws_markWireS.l0 k x (1 + 2 * (i : Int)) (i : Int) = some (1 + 2 * (n : Int), mkW n) := by
  intro d
  induction d with
  | zero =>
    intro k i x hx hi hd hk h
    obtain ⟨k, rfl⟩ : ∃ m, k = m + 1 := ⟨k - 1, by omega⟩
    simp only [laws_markWireS.l0]
    rw [if_neg (by omega)]
    rw [List.take_of_length_le (by omega), List.take_of_length_le (by rw [mkW_length]; omega)] at h
    rw [h, show (i : Int) = (n : Int) from by omega]
  | succ d ih =>
    intro k i x hx hi hd hk h
    obtain ⟨k, rfl⟩ : ∃ m, k = m + 1 := ⟨k - 1, by omega⟩
    simp only [laws_markWireS.l0]
    rw [if_pos (by omega), if_pos (by omega)]
    simp only [Option.bind_some]
    have hlx : i < x.length := by omega
    rw [Int.toNat_natCast, rd60 x i hlx, rd60 (x.set i ⟨1 + 2 * (i : Int), (x[i]).f1⟩) i (by rw [List.length_set]; exact hlx)]
    simp only [List.getElem_set_self, List.set_set]
    rw [show wrap64 (1 + 2 * (i : Int) + 1) = 2 + 2 * (i : Int) from by unfold wrap64; omega, show wrap64 (2 + 2 * (i : Int) + 1) = 1 + 2 * ((i + 1 : Nat) : Int) from by unfold wrap64; omega, wr1 i (by omega)]
    exact ih k (i + 1) _ (by simp [hx]) (by omega) (by omega) (by omega) (markW_step x n i (by omega) hx h)
theorem markNet_eq (n : Int) (l : List S60) (hl : l.length ≤ 1048576) (k : Nat) (hk : l.length < k) : laws_markNet.f k n l 1 = some (1 + 2 * (l.length : Int), mkW l.length) := by
  unfold laws_markNet.f laws_markWireS.f
  have := markW_l0 l.length hl l.length k 0 l rfl (by omega) (by omega) hk rfl
  rw [show ((0 : Nat) : Int) = 0 from rfl] at this
  rw [show (1 : Int) + 2 * 0 = 1 from rfl] at this
  rw [this]; rfl
theorem heldW_l0 (n : Nat) (hn : n ≤ 1048576) : ∀ (d k i : Nat), i ≤ n → n - i = d → d < k → laws_heldWireS.l0 k (mkW n) (1 + 2 * (i : Int)) (i : Int) = some (1 + 2 * (n : Int)) := by
  intro d
  induction d with
  | zero =>
    intro k i hi hd hk
    obtain ⟨k, rfl⟩ : ∃ m, k = m + 1 := ⟨k - 1, by omega⟩
    simp only [laws_heldWireS.l0]
    rw [if_neg (by rw [mkW_length]; omega), show (i : Int) = (n : Int) from by omega]
  | succ d ih =>
    intro k i hi hd hk
    obtain ⟨k, rfl⟩ : ∃ m, k = m + 1 := ⟨k - 1, by omega⟩
    have h2 : i < (mkW n).length := by rw [mkW_length]; omega
    simp only [laws_heldWireS.l0]
    rw [if_pos (by omega), if_pos (by omega), rd60 _ i h2, mkW_get n i h2]
    simp only
    rw [if_pos trivial, show wrap64 (1 + 2 * (i : Int) + 1) = 2 + 2 * (i : Int) from by unfold wrap64; omega, if_pos rfl, show wrap64 (2 + 2 * (i : Int) + 1) = 1 + 2 * ((i + 1 : Nat) : Int) from by unfold wrap64; omega, wr1 i (by omega)]
    exact ih k (i + 1) (by omega) (by omega) (by omega)
theorem heldNet_eq (m : Int) (n : Nat) (hn : n ≤ 1048576) (k : Nat) (hk : n < k) : laws_heldNet.f k m (mkW n) 1 = some (1 + 2 * (n : Int)) := by
  unfold laws_heldNet.f laws_heldWireS.f
  have := heldW_l0 n hn n k 0 (by omega) (by omega) hk
  rw [show ((0 : Nat) : Int) = 0 from rfl] at this
  rw [show (1 : Int) + 2 * 0 = 1 from rfl] at this
  rw [this]
  simp only [Option.bind_some]
  rw [if_neg (by omega)]
theorem law_of (k : Nat) (a0 n : Int) (l : List S60) (h1 : spec_Bitonic.f k a0 = some (n, l)) (h2 : impl_Bitonic.f k a0 = some (n, l)) (hl : l.length ≤ 1048576) (hk : l.length < k) : laws_FnExactBitonic.f k a0 = some true := by
  unfold laws_FnExactBitonic.f
  simp only [h1, h2, Option.bind_some]
  rw [eqNet_eq n l hl k hk]
  simp only [Option.bind_some, if_true]
  rw [markNet_eq n l hl k hk]
  simp only [Option.bind_some]
  rw [heldNet_eq n l.length hl k hk]
  simp only [Option.bind_some]
  rw [if_neg (by omega)]
  simp
  omega
def beqL : List S60 → List S60 → Bool
  | [], [] => true
  | x :: a, y :: b => decide (x.f0 = y.f0) && (decide (x.f1 = y.f1) && beqL a b)
  | _, _ => false
theorem beqL_eq : ∀ a b, beqL a b = true → a = b
  | [], [], _ => rfl
  | [], y :: b, h => by simp [beqL] at h
  | x :: a, [], h => by simp [beqL] at h
  | x :: a, y :: b, h => by
    simp only [beqL, Bool.and_eq_true, decide_eq_true_eq] at h
    obtain ⟨h1, h2, h3⟩ := h
    obtain ⟨x0, x1⟩ := x
    obtain ⟨y0, y1⟩ := y
    simp only at h1 h2
    rw [h1, h2, beqL_eq a b h3]
def is (n : Nat) (l : List S60) (x : Option (Int × List S60)) : Bool := match x with
  | some p => decide (p.1 = (n : Int)) && beqL p.2 l
  | none => false
theorem is_eq (n : Nat) (l : List S60) (x : Option (Int × List S60)) (h : is n l x = true) : x = some ((n : Int), l) := by
  match x, h with
  | some (m, r), h =>
    simp only [is, Bool.and_eq_true, decide_eq_true_eq] at h
    rw [h.1, beqL_eq r l h.2]
theorem powers : ∀ n : Fin 65, impl_isPower.f (n.val : Int) = spec_l08Two.f (n.val : Int) ∧ (spec_l08Two.f (n.val : Int) = some true → n.val = 1 ∨ n.val = 2 ∨ n.val = 4 ∨ n.val = 8 ∨ n.val = 16 ∨ n.val = 32 ∨ n.val = 64) ∧ (spec_l08Two.f (n.val : Int) = some true ∨ spec_l08Two.f (n.val : Int) = some false) := by decide +kernel
def canon (k : Nat) : List S60 := ((sizes k).flatMap (stage (2 ^ k))).map fun p => ⟨(p.1 : Int), (p.2 : Int)⟩
set_option maxRecDepth 100000 in
theorem nets_spec : ∀ k, k < 6 → is (2 ^ k) (canon k) (spec_Bitonic.f 3000 ((2 ^ k : Nat) : Int)) = true := by decide +kernel
set_option maxRecDepth 100000 in
theorem nets_impl : ∀ k, k < 6 → is (2 ^ k) (canon k) (impl_Bitonic.f 3000 ((2 ^ k : Nat) : Int)) = true := by decide +kernel
set_option maxRecDepth 100000 in
theorem nets_spec6 : is 64 (canon 6) (spec_Bitonic.f 3000 64) = true := by decide +kernel
set_option maxRecDepth 100000 in
theorem nets_impl6 : is 64 (canon 6) (impl_Bitonic.f 3000 64) = true := by decide +kernel
theorem canon_len : ∀ k, k < 7 → (canon k).length < 3000 := by decide +kernel
theorem out (a0 : Int) (h : ¬ (0 ≤ a0 ∧ a0 ≤ 64)) : spec_l08Two.f a0 = some false ∧ impl_isPower.f a0 = some false := by
  constructor
  · unfold spec_l08Two.f
    rw [if_neg (by omega), if_neg (by omega), if_neg (by omega), if_neg (by omega), if_neg (by omega), if_neg (by omega)]
    congr 1
    exact beq_eq_false_iff_ne.2 (by omega)
  · unfold impl_isPower.f impl_within.f
    by_cases h1 : a0 ≥ 1
    · rw [if_pos h1, decide_eq_false (by omega)]; rfl
    · rw [if_neg h1]; rfl

theorem FnExactBitonic : laws_FnExactBitonic.Pure := by
  intro a0 _
  refine ⟨3000, ?_⟩
  have key : ∀ k : Nat, k < 7 → laws_FnExactBitonic.f 3000 ((2 ^ k : Nat) : Int) = some true := by
    intro k hk
    have hl := canon_len k hk
    by_cases c : k = 6
    · subst c
      exact law_of 3000 64 _ (canon 6) (is_eq _ _ _ nets_spec6) (is_eq _ _ _ nets_impl6) (by omega) hl
    · exact law_of 3000 _ _ (canon k) (is_eq _ _ _ (nets_spec k (by omega))) (is_eq _ _ _ (nets_impl k (by omega))) (by omega) hl
  have none_ : spec_l08Two.f a0 = some false → impl_isPower.f a0 = some false → laws_FnExactBitonic.f 3000 a0 = some true := by
    intro h1 h2
    refine law_of 3000 a0 0 [] ?_ ?_ (by simp) (by simp)
    · unfold spec_Bitonic.f; rw [h1]; rfl
    · unfold impl_Bitonic.f; rw [h2]; rfl
  by_cases h : 0 ≤ a0 ∧ a0 ≤ 64
  · obtain ⟨n, rfl⟩ := Int.eq_ofNat_of_zero_le h.1
    obtain ⟨p1, p2, p3⟩ := powers ⟨n, by omega⟩
    simp only at p1 p2 p3
    rcases p3 with p3 | p3
    · rcases p2 p3 with rfl | rfl | rfl | rfl | rfl | rfl | rfl
      · exact key 0 (by omega)
      · exact key 1 (by omega)
      · exact key 2 (by omega)
      · exact key 3 (by omega)
      · exact key 4 (by omega)
      · exact key 5 (by omega)
      · exact key 6 (by omega)
    · exact none_ p3 (by rw [p1]; exact p3)
  · exact none_ (out a0 h).1 (out a0 h).2

end Go.Proofs.Ytijikfllffjdhaa.Pure

/- NetDepth answers as the reference -/
import Derived.Test.YtijikfllffjdhaaOpenFnExactNetDepth
namespace Go.Proofs.Ytijikfllffjdhaa.Pure
open Go.RowKit Go.Proofs.Ytijikfllffjdhaa.OpenFnExactNetDepth Go.Proofs.Ytijikfllffjdhaa.RowOpen Go.Proofs.Ytijikfllffjdhaa.PFnExactNetDepth Go.Proofs.YtijikfllffjdhaaW.PrintWords Go.Proofs.YtijikfllffjdhaaW.PrintLast Go.Proofs.YtijikfllffjdhaaW.PrintMore
set_option linter.unusedVariables false
set_option linter.unusedSimpArgs false

theorem wr1 (i : Nat) (h : i ≤ 4000000) : wrap64 ((i : Int) + 1) = ((i + 1 : Nat) : Int) := by unfold wrap64; omega
theorem rd60 (l : List S60) (i : Nat) (h : i < l.length) : rd_T60 l (i : Int) = l[i] := by simp [rd_T60, h]
theorem eqWireS_l0 (a : List S60) (ha : a.length ≤ 1048576) : ∀ (d k i : Nat), i ≤ a.length → a.length - i = d → d < k → laws_eqWireS.l0 k a a (i : Int) = some true := by
  intro d
  induction d with
  | zero =>
    intro k i hi hd hk
    obtain ⟨k, rfl⟩ : ∃ m, k = m + 1 := ⟨k - 1, by omega⟩
    simp only [laws_eqWireS.l0]
    rw [if_neg (by omega)]
  | succ d ih =>
    intro k i hi hd hk
    obtain ⟨k, rfl⟩ : ∃ m, k = m + 1 := ⟨k - 1, by omega⟩
    simp only [laws_eqWireS.l0]
    rw [if_pos (by omega), if_pos (by omega), if_pos (by omega)]
    unfold laws_eqWire.f
    rw [if_pos rfl, if_pos rfl]
    simp only [Option.bind_some, if_true]
    rw [wr1 i (by omega)]
    exact ih k (i + 1) (by omega) (by omega) (by omega)
theorem eqNet_eq (n : Int) (a : List S60) (ha : a.length ≤ 1048576) (k : Nat) (hk : a.length < k) : laws_eqNet.f k n a n a = some true := by
  unfold laws_eqNet.f laws_eqWireS.f
  rw [if_pos rfl, if_pos rfl]
  have := eqWireS_l0 a ha a.length k 0 (by omega) (by omega) hk
  rw [show ((0 : Nat) : Int) = 0 from rfl] at this
  rw [this]; rfl
def cvW (x : S73) : S60 := ⟨x.f0, x.f1⟩
theorem rd73 (l : List S73) (i : Nat) (h : i < l.length) : rd_T73 l (i : Int) = l[i] := by simp [rd_T73, h]
theorem szNet_eq (n : Int) (l : List S73) (h : l.length ≤ maxLen) (left : Int) (h0 : 0 ≤ left) (h1 : left ≤ 1048576) : laws_szNet.f n l left = some (if left < (l.length : Int) then -1 else left - (l.length : Int)) := by
  unfold maxLen at h
  unfold laws_szNet.f laws_szWireS.f
  rw [show wrap64 (left - (l.length : Int)) = left - (l.length : Int) from by unfold wrap64; omega]
  by_cases c : left < (l.length : Int)
  · rw [if_pos c, if_pos (by omega)]; rfl
  · rw [if_neg c, if_neg (by omega)]
    simp only [Option.bind_some]
    rw [if_neg (by omega)]
theorem take_setW (x : List S60) (l : List S73) (i : Nat) (hi : i < l.length) (hx : x.length = l.length) (h : x.take i = (l.map cvW).take i) : (x.set i (cvW l[i])).take (i + 1) = (l.map cvW).take (i + 1) := by
  rw [List.take_add_one, List.take_add_one, List.take_set_of_le (Nat.le_refl _), h]
  simp [hi, hx]
theorem toWireS_l0 (l : List S73) (hl : l.length ≤ 1048576) : ∀ (d k i : Nat) (x : List S60), x.length = l.length → i ≤ l.length → l.length - i = d → d < k → x.take i = (l.map cvW).take i →
    laws_toWireS.l0 k l x (i : Int) = some (l.map cvW) := by
  intro d
  induction d with
  | zero =>
    intro k i x hx hi hd hk h
    obtain ⟨k, rfl⟩ : ∃ m, k = m + 1 := ⟨k - 1, by omega⟩
    simp only [laws_toWireS.l0]
    rw [if_neg (by omega)]
    rw [List.take_of_length_le (by omega), List.take_of_length_le (by simp; omega)] at h
    rw [h]
  | succ d ih =>
    intro k i x hx hi hd hk h
    obtain ⟨k, rfl⟩ : ∃ m, k = m + 1 := ⟨k - 1, by omega⟩
    have hlt : i < l.length := by omega
    simp only [laws_toWireS.l0]
    rw [if_pos (by omega), if_pos (by omega), rd73 l i hlt]
    unfold laws_toWire.f
    simp only [Option.bind_some]
    rw [if_pos (by omega), wr1 i (by omega), Int.toNat_natCast]
    exact ih k (i + 1) _ (by simp [hx]) (by omega) (by omega) (by omega) (take_setW x l i hlt hx h)
theorem toNet_eq (n : Int) (l : List S73) (hl : l.length ≤ 1048576) (k : Nat) (hk : l.length < k) : laws_toNet.f k n l = some (n, l.map cvW) := by
  unfold laws_toNet.f laws_toWireS.f
  rw [if_pos (by omega), if_pos (by omega)]
  have := toWireS_l0 l hl l.length k 0 (List.replicate (l.length : Int).toNat z60) (by simp) (by omega) (by omega) hk rfl
  rw [show ((0 : Nat) : Int) = 0 from rfl] at this
  rw [this]; rfl
/-- Is it a net? -/
def netB (n : Int) (l : List S60) : Bool := decide (1 ≤ n ∧ n ≤ 64) && (decide (l.length ≤ 2100) && !(l.any (badW n)))
theorem netOk_l0 (n : Int) (l : List S60) (hl : l.length ≤ 1048576) : ∀ (d k i : Nat), i ≤ l.length → l.length - i = d → d < k → spec_NetOk.l0 k (i : Int) n l = some (!((l.drop i).any (badW n))) := by
  intro d
  induction d with
  | zero =>
    intro k i hi hd hk
    obtain ⟨k, rfl⟩ : ∃ m, k = m + 1 := ⟨k - 1, by omega⟩
    simp only [spec_NetOk.l0]
    rw [if_neg (by omega), List.drop_eq_nil_of_le (by omega)]; rfl
  | succ d ih =>
    intro k i hi hd hk
    obtain ⟨k, rfl⟩ : ∃ m, k = m + 1 := ⟨k - 1, by omega⟩
    have hlt : i < l.length := by omega
    simp only [spec_NetOk.l0]
    rw [if_pos (by omega), if_pos (by omega), rd60 l i hlt, wr1 i (by omega), ih k (i + 1) (by omega) (by omega) (by omega), List.drop_eq_getElem_cons hlt, List.any_cons]
    have e : badW n l[i] = (decide ((l[i]).f0 < 0) || (decide ((l[i]).f1 ≤ (l[i]).f0) || decide (n ≤ (l[i]).f1))) := rfl
    rw [e]
    by_cases c1 : (l[i]).f0 < 0
    · rw [if_pos c1, decide_eq_true c1]; rfl
    · rw [if_neg c1, decide_eq_false c1]
      by_cases c2 : (l[i]).f1 ≤ (l[i]).f0
      · rw [if_pos c2, decide_eq_true c2]; rfl
      · rw [if_neg c2, decide_eq_false c2]
        by_cases c3 : (l[i]).f1 ≥ n
        · rw [if_pos c3, decide_eq_true (show n ≤ (l[i]).f1 from c3)]; rfl
        · rw [if_neg c3, decide_eq_false (show ¬ n ≤ (l[i]).f1 from c3)]; rfl
theorem netOk_eq (n : Int) (l : List S60) (hl : l.length ≤ 1048576) (k : Nat) (hk : l.length + 1 < k) : spec_NetOk.f k n l = some (netB n l) := by
  obtain ⟨k, rfl⟩ : ∃ m, k = m + 1 := ⟨k - 1, by omega⟩
  unfold spec_NetOk.f netB
  by_cases c1 : n < 1
  · rw [if_pos c1, decide_eq_false (by omega)]
    simp [spec_NetOk.j0]
  · rw [if_neg c1]
    by_cases c2 : n > 64
    · rw [if_pos c2, decide_eq_false (show ¬ (1 ≤ n ∧ n ≤ 64) from by omega)]
      simp [spec_NetOk.j0]
    · rw [if_neg c2, decide_eq_true (show 1 ≤ n ∧ n ≤ 64 from by omega)]
      by_cases c3 : (l.length : Int) > 2100
      · rw [decide_eq_true c3, decide_eq_false (show ¬ l.length ≤ 2100 from by omega)]
        simp [spec_NetOk.j0]
      · rw [decide_eq_false c3, decide_eq_true (show l.length ≤ 2100 from by omega)]
        simp only [spec_NetOk.j0]
        have := netOk_l0 n l hl l.length k 0 (by omega) (by omega) (by omega)
        rw [show ((0 : Nat) : Int) = 0 from rfl] at this
        rw [if_neg (by decide), this]
        simp
theorem isNet_eq (n : Int) (l : List S60) : impl_isNet.f n l = some (netB n l) := rfl
theorem netB_in (n : Int) (ws : List S60) (h : netB n ws = true) : 1 ≤ n ∧ n ≤ 64 ∧ ws.length ≤ 2100 ∧ ∀ x, x ∈ ws → 0 ≤ x.f0 ∧ x.f0 < x.f1 ∧ x.f1 < (n.toNat : Int) := by
  simp only [netB, Bool.and_eq_true, decide_eq_true_eq, Bool.not_eq_true', List.any_eq_false] at h
  obtain ⟨⟨h1, h2⟩, h3, h4⟩ := h
  refine ⟨h1, h2, h3, fun x hx => ?_⟩
  have := h4 x hx
  simp [badW] at this
  omega
theorem maxI_ge : ∀ (l : List Int) (m : Int), m ≤ maxI l m ∧ ∀ x, x ∈ l → x ≤ maxI l m
  | [], m => ⟨Int.le_refl _, by simp⟩
  | y :: l, m => by
    unfold maxI
    have h := maxI_ge l (if m < y then y else m)
    have h2 : m ≤ (if m < y then y else m) ∧ y ≤ (if m < y then y else m) := by split <;> omega
    refine ⟨by omega, fun x hx => ?_⟩
    rcases List.mem_cons.1 hx with rfl | hx
    · omega
    · exact h.2 x hx
theorem maxI_mem : ∀ (l : List Int) (m : Int), maxI l m = m ∨ maxI l m ∈ l
  | [], m => Or.inl rfl
  | y :: l, m => by
    unfold maxI
    rcases maxI_mem l (if m < y then y else m) with h | h
    · rw [h]
      split
      · exact Or.inr (by simp)
      · exact Or.inl rfl
    · exact Or.inr (List.mem_cons_of_mem _ h)
theorem rd_at (l : List Int) (j : Nat) (h : j < l.length) : rd l (j : Int) = l[j] := by simp [rd, h]
theorem rd_set (l : List Int) (a j : Nat) (m : Int) (hj : j < l.length) : rd (l.set a m) (j : Int) = if a = j then m else rd l (j : Int) := by
  rw [rd_at _ _ (by simpa using hj), rd_at _ _ hj, List.getElem_set]
def good (l : List Int) (M : Int) : Prop := (∀ j : Nat, j < l.length → 0 ≤ rd l (j : Int) ∧ rd l (j : Int) ≤ M) ∧ ∃ p : Nat, p < l.length ∧ rd l (p : Int) = M
theorem good_max (l : List Int) (M : Int) (h : good l M) : slices_Max_int_int.f l = some M := by
  obtain ⟨h1, p, hp, hM⟩ := h
  match l, h1, hp, hM with
  | [], _, hp, _ => simp at hp
  | x :: l, h1, hp, hM =>
    show some (maxI l x) = some M
    congr 1
    have le : ∀ y, y ∈ x :: l → y ≤ M := by
      intro y hy
      obtain ⟨j, hj, rfl⟩ := List.getElem_of_mem hy
      rw [← rd_at _ _ hj]
      exact (h1 j hj).2
    have ge := maxI_ge l x
    have hMm : M ∈ x :: l := by rw [← hM, rd_at _ _ hp]; exact List.getElem_mem _
    have a1 : M ≤ maxI l x := by
      rcases List.mem_cons.1 hMm with rfl | h
      · exact ge.1
      · exact ge.2 _ h
    have a2 : maxI l x ≤ M := by
      rcases maxI_mem l x with h | h
      · rw [h]; exact le _ (by simp)
      · exact le _ (List.mem_cons_of_mem _ h)
    omega
theorem depth_l0 (n : Int) (ws : List S60) (hw : ws.length ≤ 2100) : ∀ (d k i : Nat) (l : List Int) (M : Int), (∀ x, x ∈ ws → 0 ≤ x.f0 ∧ x.f0 < x.f1 ∧ x.f1 < (l.length : Int)) → i ≤ ws.length → ws.length - i = d → d < k → good l M → M ≤ (i : Int) →
    ∃ q M', depR (ws.drop i) l = some q ∧ spec_NetDepth.l0 k l M (i : Int) n ws = some M' ∧ good q M' := by
  intro d
  induction d with
  | zero =>
    intro k i l M hin hi hd hk hg hM
    obtain ⟨k, rfl⟩ : ∃ m, k = m + 1 := ⟨k - 1, by omega⟩
    refine ⟨l, M, ?_, ?_, hg⟩
    · rw [List.drop_eq_nil_of_le (by omega)]; rfl
    · simp only [spec_NetDepth.l0]
      rw [if_neg (by omega)]
  | succ d ih =>
    intro k i l M hin hi hd hk hg hM
    obtain ⟨k, rfl⟩ : ∃ m, k = m + 1 := ⟨k - 1, by omega⟩
    have hlt : i < ws.length := by omega
    have hx := hin ws[i] (by simp)
    obtain ⟨g1, p, hp, g2⟩ := hg
    generalize hxx : ws[i] = x at hx
    obtain ⟨a, b⟩ := x
    simp only at hx
    obtain ⟨ha0, hab, hb⟩ := hx
    obtain ⟨a, rfl⟩ := Int.eq_ofNat_of_zero_le ha0
    obtain ⟨b, rfl⟩ := Int.eq_ofNat_of_zero_le (show 0 ≤ b by omega)
    have ga := g1 a (by omega)
    have gb := g1 b (by omega)
    have hmx : mx (rd l (a : Int)) (rd l (b : Int)) ≤ M ∧ 0 ≤ mx (rd l (a : Int)) (rd l (b : Int)) ∧ rd l (a : Int) ≤ mx (rd l (a : Int)) (rd l (b : Int)) ∧ rd l (b : Int) ≤ mx (rd l (a : Int)) (rd l (b : Int)) := by
      unfold mx; split <;> omega
    have w1 : wrap64 (mx (rd l (a : Int)) (rd l (b : Int)) + 1) = mx (rd l (a : Int)) (rd l (b : Int)) + 1 := by unfold wrap64; omega
    have w2 : wrap64 (1 + mx (rd l (a : Int)) (rd l (b : Int))) = mx (rd l (a : Int)) (rd l (b : Int)) + 1 := by unfold wrap64; omega
    have hnew : good ((l.set a (mx (rd l (a : Int)) (rd l (b : Int)) + 1)).set b (mx (rd l (a : Int)) (rd l (b : Int)) + 1)) (mx M (mx (rd l (a : Int)) (rd l (b : Int)) + 1)) := by
      generalize mx (rd l (a : Int)) (rd l (b : Int)) = m at hmx ⊢
      have hmM : M ≤ mx M (m + 1) ∧ m + 1 ≤ mx M (m + 1) := by unfold mx; split <;> omega
      constructor
      · intro j hj
        simp only [List.length_set] at hj
        rw [rd_set _ _ _ _ (by simpa using hj), rd_set _ _ _ _ hj]
        have := g1 j hj
        split
        · omega
        · split <;> omega
      · by_cases c : M < m + 1
        · refine ⟨b, by simp; omega, ?_⟩
          rw [rd_set _ _ _ _ (by simp; omega), if_pos rfl]
          unfold mx; rw [if_pos c]
        · refine ⟨p, by simpa using hp, ?_⟩
          have e1 : ¬ b = p := by intro e; subst e; omega
          have e2 : ¬ a = p := by intro e; subst e; omega
          rw [rd_set _ _ _ _ (by simpa using hp), if_neg e1, rd_set _ _ _ _ hp, if_neg e2, g2]
          unfold mx; rw [if_neg c]
    have hle : mx M (mx (rd l (a : Int)) (rd l (b : Int)) + 1) ≤ ((i + 1 : Nat) : Int) := by
      generalize mx (rd l (a : Int)) (rd l (b : Int)) = m at hmx
      unfold mx; split <;> omega
    obtain ⟨q, M', h1, h2, h3⟩ := ih k (i + 1) _ _ (by simpa using hin) (by omega) (by omega) (by omega) hnew hle
    refine ⟨q, M', ?_, ?_, h3⟩
    · rw [List.drop_eq_getElem_cons hlt, hxx]
      unfold depR
      have e : depL ⟨(a : Int), (b : Int)⟩ l = some ((l.set a (mx (rd l (a : Int)) (rd l (b : Int)) + 1)).set b (mx (rd l (a : Int)) (rd l (b : Int)) + 1)) := by
        unfold depL
        simp only
        rw [if_pos ⟨by omega, by omega, by omega, by omega⟩, w1]
        simp
      rw [e]
      exact h1
    · simp only [spec_NetDepth.l0]
      rw [rd60 ws i hlt, hxx]
      simp only
      rw [if_pos (by omega), if_pos (by omega), if_pos (by omega), if_pos (by omega), if_pos (by omega), if_pos (by omega), w2, wr1 i (by omega), Int.toNat_natCast, Int.toNat_natCast]
      exact h2
theorem both (n : Int) (ws : List S60) (hw : ws.length ≤ 1048576) (k : Nat) (hk : ws.length + 1 < k) : ∃ r, impl_NetDepth.f n ws = some r ∧ spec_NetDepth.f k n ws = some r := by
  unfold impl_NetDepth.f spec_NetDepth.f
  rw [isNet_eq, netOk_eq n ws hw k hk]
  simp only [Option.bind_some]
  by_cases c : netB n ws = true
  · obtain ⟨h1, h2, h3, h4⟩ := netB_in n ws c
    rw [if_pos c, if_pos c, if_pos (by omega), if_pos (by omega)]
    have hg : good (List.replicate n.toNat 0) 0 := by
      constructor
      · intro j hj
        rw [rd_at _ _ hj]; simp
      · exact ⟨0, by simp; omega, by rw [rd_at _ _ (by simp; omega)]; simp⟩
    obtain ⟨q, M', e1, e2, e3⟩ := depth_l0 n ws h3 ws.length k 0 (List.replicate n.toNat 0) 0 (by simpa using h4) (by omega) (by omega) (by omega) hg (by simp)
    rw [List.drop_zero] at e1
    rw [show ((0 : Nat) : Int) = 0 from rfl] at e2
    exact ⟨M', by rw [e1]; exact good_max q M' e3, e2⟩
  · rw [if_neg c, if_neg c]
    exact ⟨-1, rfl, rfl⟩
theorem FnExactNetDepth (x0 : S32) (w0 : ok32 x0) : ∃ k, laws_FnExactNetDepth.f k x0.f0 x0.f1 = some true := by
  obtain ⟨n, l⟩ := x0
  obtain ⟨_, hl, _⟩ := w0
  simp only at hl ⊢
  refine ⟨l.length + 5, ?_⟩
  unfold laws_FnExactNetDepth.f
  rw [szNet_eq n l hl 1048576 (by omega) (by omega)]
  simp only [Option.bind_some]
  by_cases c : (1048576 : Int) < (l.length : Int)
  · rw [if_pos c, if_pos (by omega)]
  have hL : (l.map cvW).length = l.length := List.length_map _
  rw [if_neg c, if_neg (by omega), toNet_eq n l (by omega) _ (by omega)]
  simp only [Option.bind_some]
  obtain ⟨r, e1, e2⟩ := both n (l.map cvW) (by omega) (l.length + 5) (by omega)
  rw [e1, e2]
  simp only [Option.bind_some, if_true]
  rw [eqNet_eq n _ (by omega) _ (by omega)]
  simp

end Go.Proofs.Ytijikfllffjdhaa.Pure

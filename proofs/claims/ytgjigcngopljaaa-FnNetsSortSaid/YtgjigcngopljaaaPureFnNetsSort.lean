/- For all bytes the law answers true: the three nets sort every list. -/
import Derived.Test.YtgjigcngopljaaaPFnNetsSortx5
import Derived.Test.YtgjigcngopljaaaNets
namespace Go.Proofs.Ytgjigcngopljaaa.Pure
open Go.RowKit Go.Proofs.Ytgjigcngopljaaa.PFnNetsSort Go.Proofs.YtgjigcngopljaaaW.PrintWords Go.Proofs.YtgjigcngopljaaaW.PrintLast Go.Proofs.YtgjigcngopljaaaW.PrintMore
set_option linter.unusedVariables false
set_option linter.unusedSimpArgs false

def Ev (P : Nat → Prop) : Prop := ∃ K, ∀ k, K ≤ k → P k
theorem Ev.up {P Q : Nat → Prop} (h : Ev P) (f : ∀ k, P k → Q (k + 1)) : Ev Q := by
  obtain ⟨K, h⟩ := h
  exact ⟨K + 1, fun k hk => by
    obtain ⟨m, rfl⟩ : ∃ m, k = m + 1 := ⟨k - 1, by omega⟩
    exact f m (h m (by omega))⟩
theorem Ev.and {P Q : Nat → Prop} (h : Ev P) (h' : Ev Q) : Ev fun k => P k ∧ Q k := by
  obtain ⟨K, h⟩ := h
  obtain ⟨K', h'⟩ := h'
  exact ⟨K + K', fun k hk => ⟨h k (by omega), h' k (by omega)⟩⟩
theorem Ev.imp {P Q : Nat → Prop} (h : Ev P) (f : ∀ k, P k → Q k) : Ev Q := by
  obtain ⟨K, h⟩ := h
  exact ⟨K, fun k hk => f k (h k hk)⟩
theorem Ev.from {P : Nat → Prop} (K : Nat) (h : ∀ k, K ≤ k → P k) : Ev P := ⟨K, h⟩
theorem leo_up {α : Type} (f : Nat → Option α) (h : ∀ k, LeO (f k) (f (k + 1))) (k : Nat) (r : α) (e : f k = some r) : ∀ d, f (k + d) = some r
  | 0 => e
  | d + 1 => h (k + d) r (leo_up f h k r e d)
theorem wr1 (i : Nat) (h : i ≤ 4000000) : wrap64 ((i : Int) + 1) = ((i + 1 : Nat) : Int) := by unfold wrap64; omega
theorem rd37 (l : List S37) (i : Nat) (h : i < l.length) : rd_T37 l (i : Int) = l[i] := by simp [rd_T37, h]
/-- Is it a net? -/
def netB (n : Int) (l : List S37) : Bool := decide (1 ≤ n ∧ n ≤ 64) && (decide (l.length ≤ 2100) && !(l.any (badW n)))
theorem netOk_l0 (n : Int) (l : List S37) (hl : l.length ≤ 1048576) : ∀ (d k i : Nat), i ≤ l.length → l.length - i = d → d < k → spec_NetOk.l0 k (i : Int) n l = some (!((l.drop i).any (badW n))) := by
  intro d
  induction d with
  | zero =>
    intro k i hi hd hk
    obtain ⟨k, rfl⟩ : ∃ m, k = m + 1 := ⟨k - 1, by omega⟩
    simp only [spec_NetOk.l0]
    rw [if_neg (by omega), List.drop_eq_nil_of_le (by omega)]; rfl
  | succ d ih =>
    intro k i hi hd hk
    obtain ⟨k, rfl⟩ : ∃ m, k = m + 1 := ⟨k - 1, by omega⟩
    have hlt : i < l.length := by omega
    simp only [spec_NetOk.l0]
    rw [if_pos (by omega), if_pos (by omega), rd37 l i hlt, wr1 i (by omega), ih k (i + 1) (by omega) (by omega) (by omega), List.drop_eq_getElem_cons hlt, List.any_cons]
    have e : badW n l[i] = (decide ((l[i]).f0 < 0) || (decide ((l[i]).f1 ≤ (l[i]).f0) || decide (n ≤ (l[i]).f1))) := rfl
    rw [e]
    by_cases c1 : (l[i]).f0 < 0
    · rw [if_pos c1, decide_eq_true c1]; rfl
    · rw [if_neg c1, decide_eq_false c1]
      by_cases c2 : (l[i]).f1 ≤ (l[i]).f0
      · rw [if_pos c2, decide_eq_true c2]; rfl
      · rw [if_neg c2, decide_eq_false c2]
        by_cases c3 : (l[i]).f1 ≥ n
        · rw [if_pos c3, decide_eq_true (show n ≤ (l[i]).f1 from c3)]; rfl
        · rw [if_neg c3, decide_eq_false (show ¬ n ≤ (l[i]).f1 from c3)]; rfl
theorem netOk_eq (n : Int) (l : List S37) (hl : l.length ≤ 1048576) (k : Nat) (hk : l.length + 1 < k) : spec_NetOk.f k n l = some (netB n l) := by
  obtain ⟨k, rfl⟩ : ∃ m, k = m + 1 := ⟨k - 1, by omega⟩
  unfold spec_NetOk.f netB
  by_cases c1 : n < 1
  · rw [if_pos c1, decide_eq_false (by omega)]
    simp [spec_NetOk.j0]
  · rw [if_neg c1]
    by_cases c2 : n > 64
    · rw [if_pos c2, decide_eq_false (show ¬ (1 ≤ n ∧ n ≤ 64) from by omega)]
      simp [spec_NetOk.j0]
    · rw [if_neg c2, decide_eq_true (show 1 ≤ n ∧ n ≤ 64 from by omega)]
      by_cases c3 : (l.length : Int) > 2100
      · rw [decide_eq_true c3, decide_eq_false (show ¬ l.length ≤ 2100 from by omega)]
        simp [spec_NetOk.j0]
      · rw [decide_eq_false c3, decide_eq_true (show l.length ≤ 2100 from by omega)]
        simp only [spec_NetOk.j0]
        have := netOk_l0 n l hl l.length k 0 (by omega) (by omega) (by omega)
        rw [show ((0 : Nat) : Int) = 0 from rfl] at this
        rw [if_neg (by decide), this]
        simp
theorem isNet_eq (n : Int) (l : List S37) : impl_isNet.f n l = some (netB n l) := rfl
def swapT (x : S37) (l : List Int) : List Int := if rd l x.f1 < rd l x.f0 then (l.set x.f0.toNat (rd l x.f1)).set x.f1.toNat (rd l x.f0) else l
def runT : List S37 → List Int → List Int
  | [], l => l
  | x :: ws, l => runT ws (swapT x l)
theorem swapT_len (x : S37) (l : List Int) : (swapT x l).length = l.length := by unfold swapT; split <;> simp
theorem runT_len : ∀ (ws : List S37) (l : List Int), (runT ws l).length = l.length
  | [], l => rfl
  | x :: ws, l => by unfold runT; rw [runT_len ws, swapT_len]
def inW (n : Nat) (ws : List S37) : Prop := ∀ x, x ∈ ws → 0 ≤ x.f0 ∧ x.f0 < x.f1 ∧ x.f1 < (n : Int)
theorem netB_in (n : Int) (ws : List S37) (h : netB n ws = true) : 1 ≤ n ∧ n ≤ 64 ∧ ws.length ≤ 2100 ∧ inW n.toNat ws := by
  simp only [netB, Bool.and_eq_true, decide_eq_true_eq, Bool.not_eq_true', List.any_eq_false] at h
  obtain ⟨⟨h1, h2⟩, h3, h4⟩ := h
  refine ⟨h1, h2, h3, fun x hx => ?_⟩
  have := h4 x hx
  simp [badW] at this
  omega
theorem runL_eq : ∀ (ws : List S37) (l : List Int), inW l.length ws → runL ws l = some (runT ws l)
  | [], l, _ => rfl
  | x :: ws, l, h => by
    have hx := h x (by simp)
    have e : swapL x l = some (swapT x l) := by
      unfold swapL swapT
      rw [if_pos ⟨by omega, by omega, by omega, by omega⟩]
      split <;> rfl
    unfold runL runT
    rw [e]
    simp only [Option.bind_some]
    exact runL_eq ws _ (by rw [swapT_len]; exact fun y hy => h y (by simp [hy]))
theorem set_self (l : List Int) (i : Nat) (hi : i < l.length) : l.set i (rd l (i : Int)) = l := by
  simp [rd, hi]
theorem swap_mm (x : S37) (l : List Int) (h0 : 0 ≤ x.f0) (h1 : x.f0 < x.f1) (h2 : x.f1 < (l.length : Int)) : (l.set x.f0.toNat (mn (rd l x.f0) (rd l x.f1))).set x.f1.toNat (mx (rd l x.f0) (rd l x.f1)) = swapT x l := by
  unfold swapT mn mx
  by_cases c : rd l x.f1 < rd l x.f0
  · rw [if_pos c, if_pos c, if_neg (by omega)]
  · rw [if_neg c, if_neg c]
    obtain ⟨i, hi⟩ := Int.eq_ofNat_of_zero_le h0
    obtain ⟨j, hj⟩ := Int.eq_ofNat_of_zero_le (show 0 ≤ x.f1 by omega)
    rw [hi, hj] at c ⊢
    simp only [Int.toNat_natCast]
    rw [set_self l i (by omega)]
    have : (if rd l (i : Int) < rd l (j : Int) then rd l (j : Int) else rd l (i : Int)) = rd l (j : Int) := by
      split
      · rfl
      · omega
    rw [this]
    exact set_self l j (by omega)
theorem implRun_eq (n : Int) (ws : List S37) (l : List Int) (hl : l.length ≤ 1048576) (hin : inW l.length ws) : impl_netRun.f n ws l = some (runT ws l) := by
  unfold impl_netRun.f
  rw [if_pos (by omega)]
  exact runL_eq ws l hin
def okTo (l : List Int) : Nat → Bool
  | 0 => true
  | i + 1 => !(decide (rd l ((i + 1 : Nat) : Int) < rd l (i : Int))) && okTo l i
theorem okTo_iff (l : List Int) : ∀ i, okTo l i = true ↔ ∀ j, j < i → ¬ rd l ((j + 1 : Nat) : Int) < rd l (j : Int)
  | 0 => by simp [okTo]
  | i + 1 => by
    unfold okTo
    rw [Bool.and_eq_true, okTo_iff l i]
    simp only [Bool.not_eq_true', decide_eq_false_iff_not]
    constructor
    · rintro ⟨h1, h2⟩ j hj
      by_cases e : j = i
      · subst e; exact h1
      · exact h2 j (by omega)
    · intro h
      exact ⟨h i (by omega), fun j hj => h j (by omega)⟩
/-! nets over lists of numbers, and the 0-1 principle -/
def ltI (a b : Int) : Bool := decide (a < b)
theorem ltI_ord : NetMath.Ord ltI where
  irrefl x := by simp [ltI]
  ntrans x y z h1 h2 := by simp [ltI] at *; omega
  asymm x y h := by simp [ltI] at *; omega
def natW (ws : List S37) : List (Nat × Nat) := ws.map fun x => (x.f0.toNat, x.f1.toNat)
theorem rdD (l : List Int) (i : Nat) : rd l (i : Int) = l.getD i 0 := by simp [rd]
theorem swapT_swp (x : S37) (l : List Int) (h0 : 0 ≤ x.f0) (h1 : 0 ≤ x.f1) : swapT x l = RankMath.swp ltI 0 (x.f0.toNat, x.f1.toNat) l := by
  obtain ⟨i, hi⟩ := Int.eq_ofNat_of_zero_le h0
  obtain ⟨j, hj⟩ := Int.eq_ofNat_of_zero_le h1
  unfold swapT RankMath.swp ltI
  rw [hi, hj, rdD, rdD]
  simp only [Int.toNat_natCast, decide_eq_true_eq]
theorem runT_runs (n : Nat) : ∀ (ws : List S37) (l : List Int), inW n ws → runT ws l = RankMath.runs ltI 0 (natW ws) l
  | [], l, _ => rfl
  | x :: ws, l, h => by
    have hx := h x (by simp)
    show runT ws (swapT x l) = RankMath.runs ltI 0 (natW ws) (RankMath.swp ltI 0 (x.f0.toNat, x.f1.toNat) l)
    rw [swapT_swp x l (by omega) (by omega)]
    exact runT_runs n ws _ (fun y hy => h y (by simp [hy]))
theorem natW_in (n : Nat) (ws : List S37) (h : inW n ws) : ∀ w, w ∈ natW ws → w.1 < n ∧ w.2 < n ∧ w.1 ≠ w.2 := by
  intro w hw
  obtain ⟨x, hx, rfl⟩ := List.mem_map.1 hw
  have := h x hx
  simp only
  omega
theorem runT_at (n : Nat) (ws : List S37) (l : List Int) (hl : l.length = n) (h : inW n ws) (i : Nat) (hi : i < n) : rd (runT ws l) (i : Int) = NetMath.run ltI (natW ws) (fun j => l.getD j 0) i := by
  rw [runT_runs n ws l h, rdD]
  exact RankMath.runs_run ltI 0 n (natW ws) l _ hl (natW_in n ws h) (fun _ _ => rfl) i hi
theorem okTo_srt (n : Nat) (l : List Int) (f : Nat → Int) (hf : ∀ i, i < n → rd l (i : Int) = f i) : okTo l (n - 1) = true ↔ NetMath.Srt ltI n f := by
  rw [okTo_iff]
  constructor
  · intro h i hi
    have := h i (by omega)
    rw [hf i (by omega), hf (i + 1) hi] at this
    simpa [ltI] using this
  · intro h j hj
    have := h j (by omega)
    rw [hf j (by omega), hf (j + 1) (by omega)]
    simpa [ltI] using this
def beqL : List S37 → List S37 → Bool
  | [], [] => true
  | x :: a, y :: b => decide (x.f0 = y.f0) && (decide (x.f1 = y.f1) && beqL a b)
  | _, _ => false
theorem beqL_eq : ∀ a b, beqL a b = true → a = b
  | [], [], _ => rfl
  | [], y :: b, h => by simp [beqL] at h
  | x :: a, [], h => by simp [beqL] at h
  | x :: a, y :: b, h => by
    simp only [beqL, Bool.and_eq_true, decide_eq_true_eq] at h
    obtain ⟨h1, h2, h3⟩ := h
    obtain ⟨x0, x1⟩ := x
    obtain ⟨y0, y1⟩ := y
    simp only at h1 h2
    rw [h1, h2, beqL_eq a b h3]
def is (n : Nat) (l : List S37) (x : Option (Int × List S37)) : Bool := match x with
  | some p => decide (p.1 = (n : Int)) && beqL p.2 l
  | none => false
theorem is_eq (n : Nat) (l : List S37) (x : Option (Int × List S37)) (h : is n l x = true) : x = some ((n : Int), l) := by
  match x, h with
  | some (m, r), h =>
    simp only [is, Bool.and_eq_true, decide_eq_true_eq] at h
    rw [h.1, beqL_eq r l h.2]
def passS (r : Nat) : List S37 := (List.range r).map fun (i : Nat) => ⟨(i : Int), (i : Int) + 1⟩
def bubS : Nat → List S37
  | 0 => []
  | r + 1 => passS (r + 1) ++ bubS r
def cost : Nat → Nat
  | 0 => 1
  | r + 1 => 1 + (r + 1 + 1) + cost r
theorem passS_length (r : Nat) : (passS r).length = r := by simp [passS]
theorem passS_drop (r i : Nat) (h : i < r) : (passS r).drop i = ⟨(i : Int), (i : Int) + 1⟩ :: (passS r).drop (i + 1) := by
  rw [List.drop_eq_getElem_cons (by rw [passS_length]; exact h)]
  simp [passS]
theorem bub_l1 (n : Int) (r : Nat) (hr : r ≤ 64) : ∀ (d k i : Nat) (l : List S37), i ≤ r → r - i = d → l.length + d < 8796093022208 →
    impl_Bubble.l1 (d + 1 + k) (r : Int) (r : Int) (i : Int) n l = impl_Bubble.l0 k (wrap64 ((r : Int) - 1)) n (l ++ (passS r).drop i) := by
  intro d
  induction d with
  | zero =>
    intro k i l hi hd hl
    rw [show 0 + 1 + k = k + 1 from by omega]
    simp only [impl_Bubble.l1]
    rw [if_neg (by omega), List.drop_eq_nil_of_le (by rw [passS_length]; omega), List.append_nil]
  | succ d ih =>
    intro k i l hi hd hl
    rw [show d + 1 + 1 + k = (d + 1 + k) + 1 from by omega]
    simp only [impl_Bubble.l1]
    rw [if_pos (by omega), if_pos (by omega), show wrap64 ((i : Int) + 1) = ((i + 1 : Nat) : Int) from by unfold wrap64; omega, ih k (i + 1) _ (by omega) (by omega) (by simp; omega), passS_drop r i (by omega)]
    simp
theorem bub_l0 (n : Int) : ∀ (r : Nat), r ≤ 64 → ∀ (k : Nat) (l : List S37), l.length + 64 * r < 8796093022208 → impl_Bubble.l0 (cost r + k) (r : Int) n l = some (n, l ++ bubS r)
  | 0, _, k, l, _ => by
    rw [show cost 0 + k = k + 1 from by simp [cost]; omega]
    simp only [impl_Bubble.l0]
    rw [if_neg (by omega)]
    simp [bubS]
  | r + 1, hr, k, l, hl => by
    rw [show cost (r + 1) + k = (r + 1 + 1 + (cost r + k)) + 1 from by simp only [cost]; omega]
    simp only [impl_Bubble.l0]
    rw [if_pos (by omega)]
    have := bub_l1 n (r + 1) hr (r + 1) (cost r + k) 0 l (by omega) (by omega) (by omega)
    rw [show ((0 : Nat) : Int) = 0 from rfl] at this
    rw [this, show wrap64 (((r + 1 : Nat) : Int) - 1) = (r : Int) from by unfold wrap64; omega, bub_l0 n r (by omega) k _ (by simp [passS_length]; omega)]
    simp [bubS]
theorem cost_le : ∀ r : Nat, r < 65 → cost r ≤ 3000 ∧ (bubS r).length ≤ 2100 := by decide +kernel
theorem bub_f (n : Nat) (h1 : 1 ≤ n) (h2 : n ≤ 64) (k : Nat) (hk : 3000 ≤ k) : impl_Bubble.f k (n : Int) = some ((n : Int), bubS (n - 1)) := by
  unfold impl_Bubble.f impl_within.f
  rw [if_pos (by omega), decide_eq_true (show (n : Int) ≤ 64 by omega)]
  simp only [Option.bind_some, if_true]
  have hc := (cost_le (n - 1) (by omega)).1
  obtain ⟨j, rfl⟩ : ∃ j, k = cost (n - 1) + j := ⟨k - cost (n - 1), by omega⟩
  rw [show wrap64 ((n : Int) - 1) = ((n - 1 : Nat) : Int) from by unfold wrap64; omega, bub_l0 (n : Int) (n - 1) (by omega) j [] (by simp; omega)]
  simp
/-- The state of a reader of draws: where it stands, and its seed. -/
def Ok (at_ seed b : Int) : Prop := 0 ≤ at_ ∧ at_ ≤ b ∧ 0 ≤ seed ∧ seed < 65521
def Bytes (l : List Int) : Prop := l.length ≤ 1048576 ∧ ∀ x, x ∈ l → 0 ≤ x ∧ x ≤ 255
theorem Ok.up {a s b b' : Int} (h : Ok a s b) (hb : b ≤ b') : Ok a s b' := ⟨h.1, by have := h.2.1; omega, h.2.2⟩
theorem bytes_of {l : List Int} (h1 : l.length ≤ 1048576) (h2 : ∀ x, x ∈ l → (Lit.int .u8 x).wf = true) : Bytes l := by
  refine ⟨h1, fun x hx => ?_⟩
  have := h2 x hx
  simp [Lit.wf, IntKind.min, IntKind.max, IntKind.signed, IntKind.bits] at this
  omega
theorem rd_byte {l : List Int} (h : Bytes l) (i : Int) : 0 ≤ rd l i ∧ rd l i ≤ 255 := by
  unfold rd
  rw [List.getD_eq_getElem?_getD]
  cases e : l[i.toNat]? with
  | none => simp
  | some x => exact h.2 x (List.mem_of_getElem? e)
theorem tmod_pos {a n : Int} (h0 : 0 ≤ a) (hn : 0 < n) : 0 ≤ Int.tmod a n ∧ Int.tmod a n < n := by
  rw [Int.tmod_eq_emod_of_nonneg h0]
  exact ⟨Int.emod_nonneg _ (by omega), Int.emod_lt_of_pos _ hn⟩
theorem sorted_l0 (l : List Int) (n : Nat) (hl : l.length = n) (hn : n ≤ 64) : ∀ (d k i : Nat), n - i = d → 1 ≤ i → i ≤ n → d < k → okTo l (i - 1) = true → laws_sorted.l0 k l (i : Int) = some (okTo l (n - 1)) := by
  intro d
  induction d with
  | zero =>
    intro k i hd h1 hi hk ho
    obtain ⟨k, rfl⟩ : ∃ m, k = m + 1 := ⟨k - 1, by omega⟩
    simp only [laws_sorted.l0]
    rw [if_neg (by omega), ← ho, show i = n by omega]
  | succ d ih =>
    intro k i hd h1 hi hk ho
    obtain ⟨k, rfl⟩ : ∃ m, k = m + 1 := ⟨k - 1, by omega⟩
    obtain ⟨j, rfl⟩ : ∃ j, i = j + 1 := ⟨i - 1, by omega⟩
    simp only [laws_sorted.l0]
    rw [show wrap64 (((j + 1 : Nat) : Int) - 1) = (j : Int) from by unfold wrap64; omega, if_pos (by omega), if_pos (by omega), if_pos (by omega), if_pos (by omega)]
    rw [Nat.add_sub_cancel] at ho
    by_cases c : rd l ((j + 1 : Nat) : Int) < rd l (j : Int)
    · rw [if_pos c]
      have : okTo l (n - 1) = false := by
        rw [Bool.eq_false_iff]
        intro h
        exact (okTo_iff l (n - 1)).1 h j (by omega) c
      rw [this]
    · rw [if_neg c, wr1 (j + 1) (by omega)]
      refine ih k (j + 1 + 1) (by omega) (by omega) (by omega) (by omega) ?_
      show okTo l (j + 1) = true
      unfold okTo
      rw [ho, decide_eq_false c]; rfl
theorem sorted_eq (l : List Int) (n : Nat) (hl : l.length = n) (h1 : 1 ≤ n) (hn : n ≤ 64) (k : Nat) (hk : n < k) : laws_sorted.f k l = some (okTo l (n - 1)) := by
  unfold laws_sorted.f
  exact sorted_l0 l n hl hn (n - 1) k 1 (by omega) (by omega) (by omega) (by omega) rfl
theorem implNetRun (n : Nat) (ws : List S37) (hb : netB (n : Int) ws = true) (l : List Int) (hl : l.length = n) : impl_NetRun.f (n : Int) ws l = some (runT ws l) := by
  obtain ⟨h1, h2, h3, h4⟩ := netB_in _ ws hb
  rw [Int.toNat_natCast] at h4
  unfold impl_NetRun.f
  rw [isNet_eq, Option.bind_some, if_pos hb, if_pos (by omega), implRun_eq _ ws l (by omega) (by rw [hl]; exact h4)]
  rfl
theorem ev_mono {α : Type} (f : Nat → Option α) (hm : ∀ k, LeO (f k) (f (k + 1))) (k0 : Nat) (r : α) (h : f k0 = some r) : Ev fun k => f k = some r := by
  refine ⟨k0, fun k hk => ?_⟩
  obtain ⟨d, rfl⟩ : ∃ d, k = k0 + d := ⟨k - k0, by omega⟩
  exact leo_up f hm k0 r h d
/-! the law's own draw -/
theorem lp_end (l : List Int) (a n x : Int) (ha : 0 ≤ a ∧ a ≤ 1000000) (hn : 2 ≤ n) (hx : 0 ≤ x ∧ x ≤ 1000000) : Ev fun k => laws_pick.l0 k l a n x 3 = some (Int.tmod (x + a) n) := by
  refine Ev.from 1 fun k hk => ?_
  obtain ⟨k, rfl⟩ : ∃ m, k = m + 1 := ⟨k - 1, by omega⟩
  simp only [laws_pick.l0]
  rw [if_neg (by omega), if_neg (by omega), show wrap64 (x + a) = x + a from by unfold wrap64; omega]
theorem lp_step {l : List Int} (hl : Bytes l) (hp : 0 < l.length) (a n : Int) (ha : 0 ≤ a ∧ a ≤ 1000000) (i : Int) (hi : 0 ≤ i ∧ i < 3) (B B' : Int) (hB : 31 * B + 255 ≤ B') (hB' : B' ≤ 1000000)
    (h : ∀ x, 0 ≤ x ∧ x ≤ B' → ∃ r, (0 ≤ r ∧ r < n) ∧ Ev fun k => laws_pick.l0 k l a n x (i + 1) = some r) (x : Int) (hx : 0 ≤ x ∧ x ≤ B) : ∃ r, (0 ≤ r ∧ r < n) ∧ Ev fun k => laws_pick.l0 k l a n x i = some r := by
  have hm := tmod_pos (a := wrap64 (a + i)) (n := (l.length : Int)) (by unfold wrap64; omega) (by omega)
  have hb := rd_byte hl (Int.tmod (wrap64 (a + i)) (l.length : Int))
  obtain ⟨r, hr, he⟩ := h (wrap64 ((wrap64 (31 * x)) + (wrap64 (rd l (Int.tmod (wrap64 (a + i)) (l.length : Int)))))) (by
    generalize rd l (Int.tmod (wrap64 (a + i)) (l.length : Int)) = y at hb
    have e1 : wrap64 (31 * x) = 31 * x := by unfold wrap64; omega
    have e2 : wrap64 y = y := by unfold wrap64; omega
    rw [e1, e2, show wrap64 (31 * x + y) = 31 * x + y from by unfold wrap64; omega]
    omega)
  refine ⟨r, hr, he.up fun k hk => ?_⟩
  simp only [laws_pick.l0]
  rw [if_pos (by omega), if_neg (by omega), if_pos hm.1, if_pos hm.2, show wrap64 (i + 1) = i + 1 from by unfold wrap64; omega]
  exact hk
theorem lawpick_ev {l : List Int} (hl : Bytes l) (a n : Int) (ha : 0 ≤ a ∧ a ≤ 1000000) : ∃ r, (0 ≤ r ∧ (2 ≤ n → r < n) ∧ (n < 2 → r = 0)) ∧ Ev fun k => laws_pick.f k l a n = some r := by
  have h0 : Ev fun k => laws_pick.j0 k l a n true = some 0 := by
    refine Ev.from 1 fun k hk => ?_
    obtain ⟨k, rfl⟩ : ∃ m, k = m + 1 := ⟨k - 1, by omega⟩
    simp only [laws_pick.j0]
    rw [if_pos trivial]
  by_cases c : (l.length : Int) = 0
  · refine ⟨0, ⟨by omega, fun h => by omega, fun _ => rfl⟩, h0.imp fun k hk => ?_⟩
    unfold laws_pick.f
    rw [if_pos c]
    exact hk
  · by_cases c1 : n < 2
    · refine ⟨0, ⟨by omega, fun h => by omega, fun _ => rfl⟩, h0.imp fun k hk => ?_⟩
      unfold laws_pick.f
      rw [if_neg c, decide_eq_true c1]
      exact hk
    · have hp : 0 < l.length := by omega
      have s3 : ∀ x, 0 ≤ x ∧ x ≤ 253215 → ∃ r, (0 ≤ r ∧ r < n) ∧ Ev fun k => laws_pick.l0 k l a n x (2 + 1) = some r := fun x hx => ⟨_, tmod_pos (by omega) (by omega), lp_end l a n x ha (by omega) (by omega)⟩
      have s2 := lp_step hl hp a n ha 2 (by omega) 8160 253215 (by omega) (by omega) s3
      have s1 := lp_step hl hp a n ha 1 (by omega) 255 8160 (by omega) (by omega) s2
      obtain ⟨r, hr, he⟩ := lp_step hl hp a n ha 0 (by omega) 0 255 (by omega) (by omega) s1 0 (by omega)
      refine ⟨r, ⟨hr.1, fun _ => hr.2, fun h => absurd h c1⟩, ?_⟩
      have hj : Ev fun k => laws_pick.j0 k l a n false = some r := he.up fun k hk => by
        simp only [laws_pick.j0]
        rw [if_neg (by decide)]
        exact hk
      refine hj.imp fun k hk => ?_
      unfold laws_pick.f
      rw [if_neg c, decide_eq_false c1]
      exact hk
/-! counts -/
theorem counts_l0 (l : List Int) (a : Int) (hl : l.length ≤ 64) : ∀ (d i c : Nat), l.length - i = d → i ≤ l.length → c ≤ i → Ev fun k => laws_counts.l0 k l a (c : Int) (i : Int) = some ((c + (l.drop i).count a : Nat) : Int) := by
  intro d
  induction d with
  | zero =>
    intro i c hd hi hc
    refine Ev.from 1 fun k hk => ?_
    obtain ⟨k, rfl⟩ : ∃ m, k = m + 1 := ⟨k - 1, by omega⟩
    simp only [laws_counts.l0]
    rw [if_neg (by omega), List.drop_eq_nil_of_le (by omega)]
    simp
  | succ d ih =>
    intro i c hd hi hc
    have hlt : i < l.length := by omega
    have e : rd l (i : Int) = l[i] := by simp [rd, hlt]
    have hd2 : l.drop i = l[i] :: l.drop (i + 1) := List.drop_eq_getElem_cons hlt
    by_cases c1 : l[i] = a
    · have hn : (c + (l.drop i).count a : Nat) = (c + 1) + (l.drop (i + 1)).count a := by
        rw [hd2, List.count_cons, if_pos (by simpa using c1)]; omega
      rw [hn]
      refine (ih (i + 1) (c + 1) (by omega) (by omega) (by omega)).up fun k hk => ?_
      simp only [laws_counts.l0]
      rw [if_pos (by omega), if_pos (by omega), e, if_pos c1, wr1 i (by omega), wr1 c (by omega)]
      exact hk
    · have hn : (c + (l.drop i).count a : Nat) = c + (l.drop (i + 1)).count a := by
        rw [hd2, List.count_cons, if_neg (by simpa using c1)]; omega
      rw [hn]
      refine (ih (i + 1) c (by omega) (by omega) (by omega)).up fun k hk => ?_
      simp only [laws_counts.l0]
      rw [if_pos (by omega), if_pos (by omega), e, if_neg c1, wr1 i (by omega)]
      exact hk
theorem counts_eq (l : List Int) (a : Int) (hl : l.length ≤ 64) : Ev fun k => laws_counts.f k l a = some ((l.count a : Nat) : Int) := by
  have h := counts_l0 l a hl l.length 0 0 (by omega) (by omega) (by omega)
  rw [List.drop_zero, Nat.zero_add] at h
  exact h
/-! the three nets -/
def toS (p : Nat × Nat) : S37 := ⟨(p.1 : Int), (p.2 : Int)⟩
theorem nat_toS (l : List (Nat × Nat)) : natW (l.map toS) = l := by
  unfold natW toS
  rw [List.map_map]
  exact (List.map_congr_left (fun p _ => by simp)).trans (List.map_id l)
/-- A net of n places that sorts. -/
def Good (n : Nat) (ws : List S37) : Prop := netB (n : Int) ws = true ∧ ∀ g : Nat → Bool, NetMath.Srt NetMath.ltB n (NetMath.run NetMath.ltB (natW ws) g)
theorem good_sorts {n : Nat} {ws : List S37} (h : Good n ws) (l : List Int) (hl : l.length = n) : okTo (runT ws l) (n - 1) = true ∧ (runT ws l).Perm l := by
  obtain ⟨h1, h2, h3, h4⟩ := netB_in _ ws h.1
  rw [Int.toNat_natCast] at h4
  constructor
  · refine (okTo_srt n (runT ws l) _ (fun i hi => runT_at n ws l hl h4 i hi)).2 ?_
    exact NetMath.zero_one ltI_ord n (natW ws) h.2 _
  · rw [runT_runs n ws l h4]
    refine RankMath.runs_perm ltI 0 (natW ws) l fun w hw => ?_
    have := natW_in n ws h4 w hw
    omega
def biW (k : Nat) : List S37 := (NetMath.biNet k).flatten.map toS
def oeW (k : Nat) : List S37 := (NetMath.oeNet k).flatten.map toS
set_option maxRecDepth 100000 in
theorem bi_impl : ∀ k, k < 6 → is (2 ^ k) (biW k) (impl_Bitonic.f 3000 ((2 ^ k : Nat) : Int)) = true := by decide +kernel
set_option maxRecDepth 100000 in
theorem bi_impl6 : is 64 (biW 6) (impl_Bitonic.f 3000 64) = true := by decide +kernel
set_option maxRecDepth 100000 in
theorem oe_impl : ∀ k, k < 6 → is (2 ^ k) (oeW k) (impl_OddEven.f 3000 ((2 ^ k : Nat) : Int)) = true := by decide +kernel
set_option maxRecDepth 100000 in
theorem oe_impl6 : is 64 (oeW 6) (impl_OddEven.f 3000 64) = true := by decide +kernel
set_option maxRecDepth 100000 in
theorem bi_net : ∀ k, k < 7 → netB ((2 ^ k : Nat) : Int) (biW k) = true := by decide +kernel
set_option maxRecDepth 100000 in
theorem oe_net : ∀ k, k < 7 → netB ((2 ^ k : Nat) : Int) (oeW k) = true := by decide +kernel
set_option maxRecDepth 100000 in
theorem bub_net : ∀ r, r < 40 → netB ((r + 1 : Nat) : Int) (bubS r) = true ∧ natW (bubS r) = NetMath.bubW r := by decide +kernel
theorem bi_f (k : Nat) (hk : k < 7) : impl_Bitonic.f 3000 ((2 ^ k : Nat) : Int) = some (((2 ^ k : Nat) : Int), biW k) := by
  by_cases c : k < 6
  · exact is_eq _ _ _ (bi_impl k c)
  · obtain rfl : k = 6 := by omega
    exact is_eq _ _ _ bi_impl6
theorem oe_f (k : Nat) (hk : k < 7) : impl_OddEven.f 3000 ((2 ^ k : Nat) : Int) = some (((2 ^ k : Nat) : Int), oeW k) := by
  by_cases c : k < 6
  · exact is_eq _ _ _ (oe_impl k c)
  · obtain rfl : k = 6 := by omega
    exact is_eq _ _ _ oe_impl6
theorem bi_good (k : Nat) (hk : k < 7) : Good (2 ^ k) (biW k) := by
  refine ⟨bi_net k hk, ?_⟩
  unfold biW
  rw [nat_toS]
  exact NetMath.sorts_of_check _ _ (NetMath.bi_ok k hk)
theorem oe_good (k : Nat) (hk : k < 7) : Good (2 ^ k) (oeW k) := by
  refine ⟨oe_net k hk, ?_⟩
  unfold oeW
  rw [nat_toS]
  exact NetMath.sorts_of_check _ _ (NetMath.oe_ok k hk)
theorem bub_good (r : Nat) (hr : r < 40) : Good (r + 1) (bubS r) := by
  refine ⟨(bub_net r hr).1, ?_⟩
  rw [(bub_net r hr).2]
  exact NetMath.bub_sorts (r + 1)
/-! the law -/
theorem law_l2 (x0 : List Int) (x3 : Int) (L : List S28) (x5 : Int) (l g : List Int) (hl : l.length ≤ 64) (hp : g.Perm l) (hn : Ev fun k => laws_FnNetsSort.l0 k x0 x3 L (wrap64 (x5 + 1)) = some true) :
    ∀ (d j : Nat), l.length - j = d → j ≤ l.length → Ev fun k => laws_FnNetsSort.l2 k x0 x3 L x5 l g (j : Int) = some true := by
  intro d
  induction d with
  | zero =>
    intro j hd hj
    refine hn.up fun k hk => ?_
    simp only [laws_FnNetsSort.l2]
    rw [if_neg (by omega)]
    exact hk
  | succ d ih =>
    intro j hd hj
    have h1 := counts_eq g (rd l (j : Int)) (by rw [hp.length_eq]; exact hl)
    have h2 := counts_eq l (rd l (j : Int)) hl
    rw [hp.count_eq] at h1
    refine ((h1.and h2).and (ih (j + 1) (by omega) (by omega))).up fun k hk => ?_
    simp only [laws_FnNetsSort.l2]
    rw [if_pos (by omega), if_pos (by omega), hk.1.1, Option.bind_some, hk.1.2, Option.bind_some, if_pos rfl, wr1 j (by omega)]
    exact hk.2
theorem law_l1 {x0 : List Int} (hx : Bytes x0) (x3 : Int) (L : List S28) (x5 : Int) (h5 : 0 ≤ x5) (h5' : x5 < (L.length : Int)) (n : Nat) (ws : List S37) (en : (rd_T28 L x5).f0 = (n : Int)) (ew : (rd_T28 L x5).f1 = ws) (hg : Good n ws) (hn : Ev fun k => laws_FnNetsSort.l0 k x0 x3 L (wrap64 (x5 + 1)) = some true) :
    ∀ (d : Nat) (x : List Int), n - x.length = d → x.length ≤ n → Ev fun k => laws_FnNetsSort.l1 k x0 x3 L x5 x (x.length : Int) = some true := by
  obtain ⟨b1, b2, b3, _⟩ := netB_in _ ws hg.1
  intro d
  induction d with
  | zero =>
    intro x hd hxl
    have hxn : x.length = n := by omega
    obtain ⟨hs, hp⟩ := good_sorts hg x hxn
    have hlen : (runT ws x).length = n := by rw [runT_len, hxn]
    have h2 := law_l2 x0 x3 L x5 x (runT ws x) (by omega) hp hn x.length 0 (by omega) (by omega)
    have hj : Ev fun k => laws_FnNetsSort.j2 k x0 x3 L x5 x (runT ws x) false = some true := h2.up fun k hk => by
      simp only [laws_FnNetsSort.j2]
      rw [if_neg (by decide)]
      exact hk
    refine (hj.and (Ev.from (P := fun k => 3000 < k) 3001 fun k hk => hk)).up fun k hk => ?_
    simp only [laws_FnNetsSort.l1]
    rw [if_pos h5, if_pos h5', en, ew, if_neg (by omega), Option.bind_some, if_pos (by simp; omega), List.nil_append, implNetRun n ws hg.1 x hxn, Option.bind_some, if_pos (by omega), if_neg (by omega)]
    rw [sorted_eq (runT ws x) n hlen (by omega) (by omega) k (by omega), hs, Option.bind_some, if_pos rfl, netOk_eq (n : Int) ws (by omega) k (by omega), hg.1, Option.bind_some]
    exact hk.1
  | succ d ih =>
    intro x hd hxl
    obtain ⟨r1, q1, e1⟩ := lawpick_ev hx 5 300 (by omega)
    have w1 : wrap64 (2 * (x.length : Int)) = 2 * (x.length : Int) := by clear q1; unfold wrap64; omega
    have w2 : wrap64 (3 + 2 * (x.length : Int)) = 3 + 2 * (x.length : Int) := by clear q1; unfold wrap64; omega
    obtain ⟨r2, q2, e2⟩ := lawpick_ev hx (3 + 2 * (x.length : Int)) (wrap64 (1 + r1)) (by omega)
    refine ((e1.and e2).and (ih (x ++ [r2]) (by rw [List.length_append, List.length_singleton]; omega) (by rw [List.length_append, List.length_singleton]; omega))).up fun k hk => ?_
    simp only [laws_FnNetsSort.l1]
    rw [if_pos h5, if_pos h5', en, if_pos (by omega), hk.1.1, Option.bind_some, w1, w2, hk.1.2, Option.bind_some, if_pos (by omega)]
    have h := hk.2
    rw [List.length_append, List.length_singleton] at h
    rw [wr1 x.length (by omega)]
    exact h
theorem law_l0 {x0 : List Int} (hx : Bytes x0) (N : Int) (n0 n1 n2 : Nat) (w0 w1 w2 : List S37) (g0 : Good n0 w0) (g1 : Good n1 w1) (g2 : Good n2 w2) (e0 : (n0 : Int) = N) (e1 : (n1 : Int) = N) :
    Ev fun k => laws_FnNetsSort.l0 k x0 N ([(⟨(n0 : Int), w0⟩ : S28), (⟨(n1 : Int), w1⟩ : S28), (⟨(n2 : Int), w2⟩ : S28)] : List S28) 0 = some true := by
  have h3 : Ev fun k => laws_FnNetsSort.l0 k x0 N ([(⟨(n0 : Int), w0⟩ : S28), (⟨(n1 : Int), w1⟩ : S28), (⟨(n2 : Int), w2⟩ : S28)] : List S28) 3 = some true := by
    refine Ev.from 1 fun k hk => ?_
    obtain ⟨k, rfl⟩ : ∃ m, k = m + 1 := ⟨k - 1, by omega⟩
    simp only [laws_FnNetsSort.l0]
    rw [if_neg (by decide), if_pos (by simp), if_pos (show (rd_T28 [(⟨(n0 : Int), w0⟩ : S28), (⟨(n1 : Int), w1⟩ : S28), (⟨(n2 : Int), w2⟩ : S28)] 0).f0 = N from e0), if_pos (by simp)]
    exact congrArg some (beq_iff_eq.2 e1)
  have st : ∀ (i : Int) (n : Nat) (ws : List S37), 0 ≤ i → i < 3 → (rd_T28 [(⟨(n0 : Int), w0⟩ : S28), (⟨(n1 : Int), w1⟩ : S28), (⟨(n2 : Int), w2⟩ : S28)] i).f0 = (n : Int) → (rd_T28 [(⟨(n0 : Int), w0⟩ : S28), (⟨(n1 : Int), w1⟩ : S28), (⟨(n2 : Int), w2⟩ : S28)] i).f1 = ws → Good n ws → (Ev fun k => laws_FnNetsSort.l0 k x0 N ([(⟨(n0 : Int), w0⟩ : S28), (⟨(n1 : Int), w1⟩ : S28), (⟨(n2 : Int), w2⟩ : S28)] : List S28) (wrap64 (i + 1)) = some true) → Ev fun k => laws_FnNetsSort.l0 k x0 N ([(⟨(n0 : Int), w0⟩ : S28), (⟨(n1 : Int), w1⟩ : S28), (⟨(n2 : Int), w2⟩ : S28)] : List S28) i = some true := by
    intro i n ws hi hi3 en ew hg hn
    refine (law_l1 hx N _ i hi (by simp; omega) n ws en ew hg hn n [] (by simp) (by simp)).up fun k hk => ?_
    simp only [laws_FnNetsSort.l0]
    rw [if_pos hi3]
    exact hk
  have h2 := st 2 n2 w2 (by omega) (by omega) rfl rfl g2 (by rw [show wrap64 (2 + 1) = 3 from by unfold wrap64; omega]; exact h3)
  have h1 := st 1 n1 w1 (by omega) (by omega) rfl rfl g1 (by rw [show wrap64 (1 + 1) = 2 from by unfold wrap64; omega]; exact h2)
  exact st 0 n0 w0 (by omega) (by omega) rfl rfl g0 (by rw [show wrap64 (0 + 1) = 1 from by unfold wrap64; omega]; exact h1)
theorem rd_pow (r : Nat) (hr : r < 7) : rd [1, 2, 4, 8, 16, 32, 64] (r : Int) = ((2 ^ r : Nat) : Int) := by
  have h : r = 0 ∨ r = 1 ∨ r = 2 ∨ r = 3 ∨ r = 4 ∨ r = 5 ∨ r = 6 := by omega
  rcases h with rfl | rfl | rfl | rfl | rfl | rfl | rfl <;> rfl
theorem FnNetsSort : laws_FnNetsSort.Pure := by
  intro l0 hlen hsz hwf
  by_cases c : (l0.length : Int) > 1048576
  · refine ⟨0, ?_⟩
    unfold laws_FnNetsSort.f laws_big.f
    rw [Option.bind_some, decide_eq_true c, if_pos rfl]
  · have hl : Bytes l0 := bytes_of (by omega) hwf
    obtain ⟨r1, q1, e1⟩ := lawpick_ev hl 1 7 (by omega)
    obtain ⟨r2, q2, e2⟩ := lawpick_ev hl 2 40 (by omega)
    have t1 := q1.2.1 (by omega)
    have t2 := q2.2.1 (by omega)
    obtain ⟨r, rfl⟩ := Int.eq_ofNat_of_zero_le q1.1
    obtain ⟨s, rfl⟩ := Int.eq_ofNat_of_zero_le q2.1
    have hr : r < 7 := by omega
    have hs : s < 40 := by omega
    have b1 := ev_mono (fun k => impl_Bitonic.f k ((2 ^ r : Nat) : Int)) (fun k => impl_Bitonic.mono _ k) 3000 _ (bi_f r hr)
    have b2 := ev_mono (fun k => impl_OddEven.f k ((2 ^ r : Nat) : Int)) (fun k => impl_OddEven.mono _ k) 3000 _ (oe_f r hr)
    have b3 : Ev fun k => impl_Bubble.f k ((s + 1 : Nat) : Int) = some (((s + 1 : Nat) : Int), bubS s) := Ev.from 3000 fun k hk => bub_f (s + 1) (by omega) (by omega) k hk
    have h0 := law_l0 hl ((2 ^ r : Nat) : Int) (2 ^ r) (2 ^ r) (s + 1) (biW r) (oeW r) (bubS s) (bi_good r hr) (oe_good r hr) (bub_good s hs) rfl rfl
    obtain ⟨K, h⟩ := ((((e1.and e2).and b1).and b2).and b3).and h0
    obtain ⟨⟨⟨⟨⟨k1, k2⟩, k3⟩, k4⟩, k5⟩, k6⟩ := h K (Nat.le_refl _)
    refine ⟨K, ?_⟩
    unfold laws_FnNetsSort.f laws_big.f
    rw [Option.bind_some, decide_eq_false c, if_neg (by decide), Option.bind_some, k1, Option.bind_some, if_pos (by omega), if_pos (by simp; omega), rd_pow r hr, k3, Option.bind_some]
    dsimp only
    rw [k4, Option.bind_some]
    dsimp only
    rw [k2, Option.bind_some, show wrap64 (1 + (s : Int)) = ((s + 1 : Nat) : Int) from by unfold wrap64; omega, k5, Option.bind_some]
    exact k6

end Go.Proofs.Ytgjigcngopljaaa.Pure

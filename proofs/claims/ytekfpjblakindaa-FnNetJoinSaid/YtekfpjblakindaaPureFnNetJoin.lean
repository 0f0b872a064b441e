/- For every input of bytes the law FnNetJoin returns true: a joined net does what both nets do in turn, in no more rounds than both. -/
import Derived.Test.YtekfpjblakindaaPFnNetJoinx9
namespace Go.Proofs.Ytekfpjblakindaa.Pure
open Go.RowKit Go.Proofs.Ytekfpjblakindaa.PFnNetJoin Go.Proofs.YtekfpjblakindaaW.PrintWords Go.Proofs.YtekfpjblakindaaW.PrintLast Go.Proofs.YtekfpjblakindaaW.PrintMore
set_option linter.unusedVariables false
set_option linter.unusedSimpArgs false

theorem leo_up {α : Type} (f : Nat → Option α) (h : ∀ k, LeO (f k) (f (k + 1))) (k : Nat) (r : α) (e : f k = some r) : ∀ d, f (k + d) = some r
  | 0 => e
  | d + 1 => h (k + d) r (leo_up f h k r e d)
theorem wr1 (i : Nat) (h : i ≤ 4000000) : wrap64 ((i : Int) + 1) = ((i + 1 : Nat) : Int) := by unfold wrap64; omega
theorem rd55 (l : List S55) (i : Nat) (h : i < l.length) : rd_T55 l (i : Int) = l[i] := by simp [rd_T55, h]
/-- Is it a net? -/
def netB (n : Int) (l : List S55) : Bool := decide (1 ≤ n ∧ n ≤ 64) && (decide (l.length ≤ 2100) && !(l.any (badW n)))
theorem netOk_l0 (n : Int) (l : List S55) (hl : l.length ≤ 1048576) : ∀ (d k i : Nat), i ≤ l.length → l.length - i = d → d < k → spec_NetOk.l0 k (i : Int) n l = some (!((l.drop i).any (badW n))) := by
  intro d
  induction d with
  | zero =>
    intro k i hi hd hk
    obtain ⟨k, rfl⟩ : ∃ m, k = m + 1 := ⟨k - 1, by omega⟩
    simp only [spec_NetOk.l0]
    rw [if_neg (by omega), List.drop_eq_nil_of_le (by omega)]; rfl
  | succ d ih =>
    intro k i hi hd hk
    obtain ⟨k, rfl⟩ : ∃ m, k = m + 1 := ⟨k - 1, by omega⟩
    have hlt : i < l.length := by omega
    simp only [spec_NetOk.l0]
    rw [if_pos (by omega), if_pos (by omega), rd55 l i hlt, wr1 i (by omega), ih k (i + 1) (by omega) (by omega) (by omega), List.drop_eq_getElem_cons hlt, List.any_cons]
    have e : badW n l[i] = (decide ((l[i]).f0 < 0) || (decide ((l[i]).f1 ≤ (l[i]).f0) || decide (n ≤ (l[i]).f1))) := rfl
    rw [e]
    by_cases c1 : (l[i]).f0 < 0
    · rw [if_pos c1, decide_eq_true c1]; rfl
    · rw [if_neg c1, decide_eq_false c1]
      by_cases c2 : (l[i]).f1 ≤ (l[i]).f0
      · rw [if_pos c2, decide_eq_true c2]; rfl
      · rw [if_neg c2, decide_eq_false c2]
        by_cases c3 : (l[i]).f1 ≥ n
        · rw [if_pos c3, decide_eq_true (show n ≤ (l[i]).f1 from c3)]; rfl
        · rw [if_neg c3, decide_eq_false (show ¬ n ≤ (l[i]).f1 from c3)]; rfl
theorem netOk_eq (n : Int) (l : List S55) (hl : l.length ≤ 1048576) (k : Nat) (hk : l.length + 1 < k) : spec_NetOk.f k n l = some (netB n l) := by
  obtain ⟨k, rfl⟩ : ∃ m, k = m + 1 := ⟨k - 1, by omega⟩
  unfold spec_NetOk.f netB
  by_cases c1 : n < 1
  · rw [if_pos c1, decide_eq_false (by omega)]
    simp [spec_NetOk.j0]
  · rw [if_neg c1]
    by_cases c2 : n > 64
    · rw [if_pos c2, decide_eq_false (show ¬ (1 ≤ n ∧ n ≤ 64) from by omega)]
      simp [spec_NetOk.j0]
    · rw [if_neg c2, decide_eq_true (show 1 ≤ n ∧ n ≤ 64 from by omega)]
      by_cases c3 : (l.length : Int) > 2100
      · rw [decide_eq_true c3, decide_eq_false (show ¬ l.length ≤ 2100 from by omega)]
        simp [spec_NetOk.j0]
      · rw [decide_eq_false c3, decide_eq_true (show l.length ≤ 2100 from by omega)]
        simp only [spec_NetOk.j0]
        have := netOk_l0 n l hl l.length k 0 (by omega) (by omega) (by omega)
        rw [show ((0 : Nat) : Int) = 0 from rfl] at this
        rw [if_neg (by decide), this]
        simp
theorem isNet_eq (n : Int) (l : List S55) : impl_isNet.f n l = some (netB n l) := rfl
def swapT (x : S55) (l : List Int) : List Int := if rd l x.f1 < rd l x.f0 then (l.set x.f0.toNat (rd l x.f1)).set x.f1.toNat (rd l x.f0) else l
def runT : List S55 → List Int → List Int
  | [], l => l
  | x :: ws, l => runT ws (swapT x l)
theorem swapT_len (x : S55) (l : List Int) : (swapT x l).length = l.length := by unfold swapT; split <;> simp
theorem runT_len : ∀ (ws : List S55) (l : List Int), (runT ws l).length = l.length
  | [], l => rfl
  | x :: ws, l => by unfold runT; rw [runT_len ws, swapT_len]
def inW (n : Nat) (ws : List S55) : Prop := ∀ x, x ∈ ws → 0 ≤ x.f0 ∧ x.f0 < x.f1 ∧ x.f1 < (n : Int)
theorem netB_in (n : Int) (ws : List S55) (h : netB n ws = true) : 1 ≤ n ∧ n ≤ 64 ∧ ws.length ≤ 2100 ∧ inW n.toNat ws := by
  simp only [netB, Bool.and_eq_true, decide_eq_true_eq, Bool.not_eq_true', List.any_eq_false] at h
  obtain ⟨⟨h1, h2⟩, h3, h4⟩ := h
  refine ⟨h1, h2, h3, fun x hx => ?_⟩
  have := h4 x hx
  simp [badW] at this
  omega
theorem runL_eq : ∀ (ws : List S55) (l : List Int), inW l.length ws → runL ws l = some (runT ws l)
  | [], l, _ => rfl
  | x :: ws, l, h => by
    have hx := h x (by simp)
    have e : swapL x l = some (swapT x l) := by
      unfold swapL swapT
      rw [if_pos ⟨by omega, by omega, by omega, by omega⟩]
      split <;> rfl
    unfold runL runT
    rw [e]
    simp only [Option.bind_some]
    exact runL_eq ws _ (by rw [swapT_len]; exact fun y hy => h y (by simp [hy]))
theorem set_self (l : List Int) (i : Nat) (hi : i < l.length) : l.set i (rd l (i : Int)) = l := by
  simp [rd, hi]
theorem swap_mm (x : S55) (l : List Int) (h0 : 0 ≤ x.f0) (h1 : x.f0 < x.f1) (h2 : x.f1 < (l.length : Int)) : (l.set x.f0.toNat (mn (rd l x.f0) (rd l x.f1))).set x.f1.toNat (mx (rd l x.f0) (rd l x.f1)) = swapT x l := by
  unfold swapT mn mx
  by_cases c : rd l x.f1 < rd l x.f0
  · rw [if_pos c, if_pos c, if_neg (by omega)]
  · rw [if_neg c, if_neg c]
    obtain ⟨i, hi⟩ := Int.eq_ofNat_of_zero_le h0
    obtain ⟨j, hj⟩ := Int.eq_ofNat_of_zero_le (show 0 ≤ x.f1 by omega)
    rw [hi, hj] at c ⊢
    simp only [Int.toNat_natCast]
    rw [set_self l i (by omega)]
    have : (if rd l (i : Int) < rd l (j : Int) then rd l (j : Int) else rd l (i : Int)) = rd l (j : Int) := by
      split
      · rfl
      · omega
    rw [this]
    exact set_self l j (by omega)
theorem specRun_l0 (n : Int) (ws : List S55) (hw : ws.length ≤ 1048576) : ∀ (d k i : Nat) (l : List Int), inW l.length ws → i ≤ ws.length → ws.length - i = d → d < k → spec_l08Run.l0 k l (i : Int) n ws = some (runT (ws.drop i) l) := by
  intro d
  induction d with
  | zero =>
    intro k i l hin hi hd hk
    obtain ⟨k, rfl⟩ : ∃ m, k = m + 1 := ⟨k - 1, by omega⟩
    simp only [spec_l08Run.l0]
    rw [if_neg (by omega), List.drop_eq_nil_of_le (by omega)]; rfl
  | succ d ih =>
    intro k i l hin hi hd hk
    obtain ⟨k, rfl⟩ : ∃ m, k = m + 1 := ⟨k - 1, by omega⟩
    have hlt : i < ws.length := by omega
    have hx := hin ws[i] (by simp)
    simp only [spec_l08Run.l0]
    rw [rd55 ws i hlt, if_pos (by omega), if_pos (by omega), if_pos (by omega), if_pos (by omega), if_pos (by omega), if_pos (by omega), swap_mm _ _ hx.1 hx.2.1 hx.2.2, wr1 i (by omega), ih k (i + 1) _ (by rw [swapT_len]; exact hin) (by omega) (by omega) (by omega), List.drop_eq_getElem_cons hlt]
    rfl
theorem specRun_eq (n : Int) (ws : List S55) (l : List Int) (hw : ws.length ≤ 2100) (hl : l.length ≤ 1048576) (hin : inW l.length ws) (k : Nat) (hk : ws.length < k) : spec_l08Run.f k n ws l = some (runT ws l) := by
  unfold spec_l08Run.f
  simp only [Option.bind_some]
  rw [if_pos (by simp; omega)]
  have := specRun_l0 n ws (by omega) ws.length k 0 l hin (by omega) (by omega) hk
  simpa using this
theorem implRun_eq (n : Int) (ws : List S55) (l : List Int) (hl : l.length ≤ 1048576) (hin : inW l.length ws) : impl_netRun.f n ws l = some (runT ws l) := by
  unfold impl_netRun.f
  rw [if_pos (by omega)]
  exact runL_eq ws l hin
theorem implNetRun (n : Nat) (ws : List S55) (hb : netB (n : Int) ws = true) (l : List Int) (hl : l.length = n) : impl_NetRun.f (n : Int) ws l = some (runT ws l) := by
  obtain ⟨h1, h2, h3, h4⟩ := netB_in _ ws hb
  rw [Int.toNat_natCast] at h4
  unfold impl_NetRun.f
  rw [isNet_eq, Option.bind_some, if_pos hb, if_pos (by omega), implRun_eq _ ws l (by omega) (by rw [hl]; exact h4)]
  rfl
def joinR (n : Int) (a : List S55) (m : Int) (b : List S55) : Int × List S55 × Bool := if netB n a = true ∧ netB m b = true ∧ n = m ∧ a.length + b.length ≤ 2100 then (n, a ++ b, true) else (0, [], false)
theorem netB_len {n : Int} {a : List S55} (h : netB n a = true) : a.length ≤ 2100 := by
  simp only [netB, Bool.and_eq_true, decide_eq_true_eq] at h
  exact h.2.1
theorem join_tail (n : Int) (a : List S55) (m : Int) (b : List S55) (ha : netB n a = true) (hb : netB m b = true) :
    (if n = m then (if (wrap64 ((a.length : Int) + (b.length : Int))) > 2100 then (some ((0 : Int), ([] : List S55), false)) else ((some (([] : List S55) : List S55)).bind fun y111 => (if y111.length + a.length < 8796093022208 then ((some (y111 ++ a : List S55)).bind fun y114 => (if y114.length + b.length < 8796093022208 then (some (n, (y114 ++ b), true)) else (none))) else (none)))) else (some ((0 : Int), ([] : List S55), false))) = some (joinR n a m b) := by
  have h1 := netB_len ha
  have h2 := netB_len hb
  unfold joinR
  by_cases c : n = m
  · rw [if_pos c, show wrap64 ((a.length : Int) + (b.length : Int)) = (a.length : Int) + (b.length : Int) from by unfold wrap64; omega]
    by_cases c2 : (a.length : Int) + (b.length : Int) > 2100
    · rw [if_pos c2, if_neg (fun h => by omega)]
    · rw [if_neg c2, Option.bind_some, if_pos (by simp; omega), Option.bind_some, List.nil_append, if_pos (by omega), if_pos ⟨ha, hb, c, by omega⟩]
  · rw [if_neg c, if_neg (fun h => c h.2.2.1)]
theorem iJoin (k : Nat) (n : Int) (a : List S55) (m : Int) (b : List S55) : impl_NetJoin.f k n a m b = some (joinR n a m b) := by
  unfold impl_NetJoin.f
  rw [isNet_eq, Option.bind_some]
  by_cases ha : netB n a = true
  · rw [if_pos ha, isNet_eq, Option.bind_some]
    by_cases hb : netB m b = true
    · rw [if_pos hb, join_tail n a m b ha hb]
    · rw [if_neg hb]; unfold joinR; rw [if_neg (fun h => hb h.2.1)]
  · rw [if_neg ha]; unfold joinR; rw [if_neg (fun h => ha h.1)]
theorem sJoin (n : Int) (a : List S55) (m : Int) (b : List S55) (hla : a.length ≤ 1048576) (hlb : b.length ≤ 1048576) (k : Nat) (hk : a.length + b.length + 1 < k) : spec_NetJoin.f k n a m b = some (joinR n a m b) := by
  unfold spec_NetJoin.f
  rw [netOk_eq n a hla k (by omega), Option.bind_some]
  by_cases ha : netB n a = true
  · rw [if_pos ha, netOk_eq m b hlb k (by omega), Option.bind_some]
    by_cases hb : netB m b = true
    · rw [if_pos hb, join_tail n a m b ha hb]
    · rw [if_neg hb]; unfold joinR; rw [if_neg (fun h => hb h.2.1)]
  · rw [if_neg ha]; unfold joinR; rw [if_neg (fun h => ha h.1)]
theorem maxI_ge : ∀ (l : List Int) (m : Int), m ≤ maxI l m ∧ ∀ x, x ∈ l → x ≤ maxI l m
  | [], m => ⟨Int.le_refl _, by simp⟩
  | y :: l, m => by
    unfold maxI
    have h := maxI_ge l (if m < y then y else m)
    have h2 : m ≤ (if m < y then y else m) ∧ y ≤ (if m < y then y else m) := by split <;> omega
    refine ⟨by omega, fun x hx => ?_⟩
    rcases List.mem_cons.1 hx with rfl | hx
    · omega
    · exact h.2 x hx
theorem maxI_mem : ∀ (l : List Int) (m : Int), maxI l m = m ∨ maxI l m ∈ l
  | [], m => Or.inl rfl
  | y :: l, m => by
    unfold maxI
    rcases maxI_mem l (if m < y then y else m) with h | h
    · rw [h]
      split
      · exact Or.inr (by simp)
      · exact Or.inl rfl
    · exact Or.inr (List.mem_cons_of_mem _ h)
theorem rd_at (l : List Int) (j : Nat) (h : j < l.length) : rd l (j : Int) = l[j] := by simp [rd, h]
theorem rd_set (l : List Int) (a j : Nat) (m : Int) (hj : j < l.length) : rd (l.set a m) (j : Int) = if a = j then m else rd l (j : Int) := by
  rw [rd_at _ _ (by simpa using hj), rd_at _ _ hj, List.getElem_set]
/-- The state of a reader of draws: where it stands, and its seed. -/
def Ok (at_ seed b : Int) : Prop := 0 ≤ at_ ∧ at_ ≤ b ∧ 0 ≤ seed ∧ seed < 65521
def Bytes (l : List Int) : Prop := l.length ≤ 1048576 ∧ ∀ x, x ∈ l → 0 ≤ x ∧ x ≤ 255
theorem Ok.up {a s b b' : Int} (h : Ok a s b) (hb : b ≤ b') : Ok a s b' := ⟨h.1, by have := h.2.1; omega, h.2.2⟩
theorem bytes_of {l : List Int} (h1 : l.length ≤ 1048576) (h2 : ∀ x, x ∈ l → (Lit.int .u8 x).wf = true) : Bytes l := by
  refine ⟨h1, fun x hx => ?_⟩
  have := h2 x hx
  simp [Lit.wf, IntKind.min, IntKind.max, IntKind.signed, IntKind.bits] at this
  omega
theorem rd_byte {l : List Int} (h : Bytes l) (i : Int) : 0 ≤ rd l i ∧ rd l i ≤ 255 := by
  unfold rd
  rw [List.getD_eq_getElem?_getD]
  cases e : l[i.toNat]? with
  | none => simp
  | some x => exact h.2 x (List.mem_of_getElem? e)
theorem tmod_pos {a n : Int} (h0 : 0 ≤ a) (hn : 0 < n) : 0 ≤ Int.tmod a n ∧ Int.tmod a n < n := by
  rw [Int.tmod_eq_emod_of_nonneg h0]
  exact ⟨Int.emod_nonneg _ (by omega), Int.emod_lt_of_pos _ hn⟩
theorem pick_ok {l : List Int} (hl : Bytes l) {a s b : Int} (h : Ok a s b) (hb : b ≤ 1000000000000) (n : Int) :
    ∃ r a' s', spec_l01Cur_pick.f l a s n = some (r, a', s') ∧ 0 ≤ r ∧ (2 ≤ n → r < n) ∧ (n < 2 → r = 0) ∧ Ok a' s' (b + 1) := by
  obtain ⟨h0, h1, h2, h3⟩ := h
  have hlen := hl.1
  unfold spec_l01Cur_pick.f
  by_cases c1 : n < 2
  · rw [if_pos c1]
    exact ⟨0, a, s, rfl, by omega, fun _ => by omega, fun _ => rfl, h0, by omega, h2, h3⟩
  · rw [if_neg c1]
    have w1 : wrap64 (a + 1) = a + 1 := by unfold wrap64; omega
    have w2 : wrap64 (s * 1103) = s * 1103 := by unfold wrap64; omega
    have w3 : wrap64 (s * 1103 + 12345) = s * 1103 + 12345 := by unfold wrap64; omega
    rw [w1, w2, w3]
    have hs := tmod_pos (a := s * 1103 + 12345) (n := 65521) (by omega) (by omega)
    generalize Int.tmod (s * 1103 + 12345) 65521 = s1 at hs
    have hok : Ok (a + 1) s1 (b + 1) := ⟨by omega, by omega, hs.1, hs.2⟩
    by_cases c2 : a < (l.length : Int)
    · rw [if_pos c2, if_pos h0, if_neg (by omega)]
      have hr := rd_byte hl a
      rw [show wrap64 (rd l a) = rd l a from by unfold wrap64; omega]
      have hm := tmod_pos (a := rd l a) (n := n) hr.1 (by omega)
      exact ⟨_, _, _, rfl, hm.1, fun _ => hm.2, fun h => absurd h c1, by omega, by omega, h2, h3⟩
    · rw [if_neg c2]
      by_cases c3 : (l.length : Int) > 0
      · rw [if_pos c3, if_neg (by omega)]
        have hi := tmod_pos (a := a) (n := (l.length : Int)) h0 c3
        rw [if_pos hi.1, if_pos hi.2, if_neg (by omega)]
        have hr := rd_byte hl (Int.tmod a (l.length : Int))
        generalize rd l (Int.tmod a (l.length : Int)) = y at hr
        have hd : 0 ≤ Int.tdiv s1 7 ∧ Int.tdiv s1 7 ≤ 65521 := by
          rw [Int.tdiv_eq_ediv_of_nonneg hs.1]; omega
        generalize Int.tdiv s1 7 = z at hd
        rw [show wrap64 z = z from by unfold wrap64; omega, show wrap64 y = y from by unfold wrap64; omega, show wrap64 (z + y) = z + y from by unfold wrap64; omega]
        have hm := tmod_pos (a := z + y) (n := n) (by omega) (by omega)
        exact ⟨_, _, _, rfl, hm.1, fun _ => hm.2, fun h => absurd h c1, hok⟩
      · rw [if_neg c3, if_neg (by omega)]
        have e : (0 : Int) % n = 0 := Int.zero_emod n
        rw [e]
        exact ⟨_, _, _, rfl, by omega, fun _ => by omega, fun h => absurd h c1, hok⟩
theorem raw_ok {l : List Int} (hl : Bytes l) {a s b : Int} (h : Ok a s b) (hb : b ≤ 900000000000) :
    ∃ r a' s', spec_l01Cur_raw.f l a s = some (r, a', s') ∧ (-9223372036854775808 ≤ r ∧ r ≤ 9223372036854775807) ∧ Ok a' s' (b + 2) := by
  obtain ⟨r1, a1, s1, e1, k1, k2, _, o1⟩ := pick_ok hl h (by omega) 8
  unfold spec_l01Cur_raw.f
  rw [e1]
  simp only [Option.bind_some]
  by_cases c1 : r1 = 0
  · rw [if_pos c1]
    obtain ⟨r2, a2, s2, e2, k3, k4, _, o2⟩ := pick_ok hl o1 (by omega) 256
    rw [e2]
    have := k4 (by omega)
    exact ⟨_, _, _, rfl, by rw [show wrap64 (r2 - 128) = r2 - 128 from by unfold wrap64; omega]; omega, o2.up (by omega)⟩
  · rw [if_neg c1]
    by_cases c2 : r1 = 1
    · rw [if_pos c2]
      obtain ⟨r2, a2, s2, e2, k3, k4, _, o2⟩ := pick_ok hl o1 (by omega) 8
      simp only [e2, Option.bind_some]
      rw [if_pos k3, if_pos (by have := k4 (by omega); simpa using this)]
      refine ⟨_, _, _, rfl, ?_, o2.up (by omega)⟩
      have k5 := k4 (by omega)
      have h8 : r2 = 0 ∨ r2 = 1 ∨ r2 = 2 ∨ r2 = 3 ∨ r2 = 4 ∨ r2 = 5 ∨ r2 = 6 ∨ r2 = 7 := by omega
      rcases h8 with rfl | rfl | rfl | rfl | rfl | rfl | rfl | rfl <;> decide
    · rw [if_neg c2]
      obtain ⟨r2, a2, s2, e2, k3, k4, _, o2⟩ := pick_ok hl o1 (by omega) 14
      rw [e2]
      have := k4 (by omega)
      exact ⟨_, _, _, rfl, by rw [show wrap64 (r2 - 3) = r2 - 3 from by unfold wrap64; omega]; omega, o2.up (by omega)⟩
theorem open_ok {l : List Int} (hl : Bytes l) : ∃ s, spec_l01Open.f l = some (l, 0, s) ∧ Ok 0 s 0 := by
  refine ⟨_, rfl, by omega, by omega, ?_, ?_⟩ <;> omega
theorem once_ok {l : List Int} (hl : Bytes l) {a s b : Int} (h : Ok a s b) (hb : b ≤ 900000000000) (n : Int) :
    ∃ r a' s', spec_l01Cur_once.f l a s n = some (r, a', s') ∧ Ok a' s' (b + 1) := by
  obtain ⟨r, a', s', e, _, _, _, o⟩ := pick_ok hl h (by omega) n
  unfold spec_l01Cur_once.f
  rw [e]
  exact ⟨_, _, _, rfl, o⟩
/-! the draws of nets: that they come to an end -/
def smallN (x : Option (Int × List S55)) : Bool := match x with | none => false | some p => decide (p.2.length ≤ 100)
theorem smallN_ok (x : Option (Int × List S55)) (h : smallN x = true) : ∃ n ws, x = some (n, ws) ∧ ws.length ≤ 100 := by
  match x, h with
  | some p, h => exact ⟨p.1, p.2, rfl, of_decide_eq_true h⟩
set_option maxRecDepth 100000 in
theorem bubble_all : ∀ n : Fin 14, smallN (spec_Bubble.f 300 (n.val : Int)) = true := by decide +kernel
theorem bubble_ok (n : Nat) (hn : n < 14) (k : Nat) (hk : 300 ≤ k) : ∃ m ws, spec_Bubble.f k (n : Int) = some (m, ws) ∧ ws.length ≤ 100 := by
  obtain ⟨m, ws, e, h⟩ := smallN_ok _ (bubble_all ⟨n, hn⟩)
  refine ⟨m, ws, ?_, h⟩
  obtain ⟨d, rfl⟩ : ∃ d, k = 300 + d := ⟨k - 300, by omega⟩
  exact leo_up (fun k => spec_Bubble.f k (n : Int)) (fun k => spec_Bubble.mono _ k) 300 _ e d
def smallB (n : Nat) (x : Option Bool) : Bool := match x with
  | none => false
  | some b => if b = true then smallN (spec_Bitonic.f 300 (n : Int)) && smallN (spec_OddEven.f 300 (n : Int)) else decide (1 < n)
set_option maxRecDepth 100000 in
theorem two_all : ∀ n : Fin 11, n.val = 0 ∨ smallB n.val (spec_l08Two.f (n.val : Int)) = true := by decide +kernel
theorem two_ok (n : Nat) (h1 : 1 ≤ n) (hn : n < 11) (k : Nat) (hk : 300 ≤ k) : ∃ b, spec_l08Two.f (n : Int) = some b ∧ (b = false → 1 < n) ∧ (b = true → (∃ m ws, spec_Bitonic.f k (n : Int) = some (m, ws) ∧ ws.length ≤ 100) ∧ (∃ m ws, spec_OddEven.f k (n : Int) = some (m, ws) ∧ ws.length ≤ 100)) := by
  rcases two_all ⟨n, hn⟩ with h | h
  · exact absurd h (by simp only; omega)
  · simp only at h
    cases e : spec_l08Two.f (n : Int) with
    | none => rw [e] at h; exact absurd h (by simp [smallB])
    | some b =>
      rw [e] at h
      refine ⟨b, rfl, ?_, ?_⟩
      · rintro rfl
        exact of_decide_eq_true h
      · rintro rfl
        simp only [smallB, if_true, Bool.and_eq_true] at h
        obtain ⟨d, rfl⟩ : ∃ d, k = 300 + d := ⟨k - 300, by omega⟩
        obtain ⟨m, ws, e1, l1⟩ := smallN_ok _ h.1
        obtain ⟨m', ws', e2, l2⟩ := smallN_ok _ h.2
        exact ⟨⟨m, ws, leo_up (fun k => spec_Bitonic.f k (n : Int)) (fun k => spec_Bitonic.mono _ k) 300 _ e1 d, l1⟩, ⟨m', ws', leo_up (fun k => spec_OddEven.f k (n : Int)) (fun k => spec_OddEven.mono _ k) 300 _ e2 d, l2⟩⟩
theorem size20_ok {l : List Int} (hl : Bytes l) {a s b : Int} (h : Ok a s b) (hb : b ≤ 900000000000) :
    ∃ (n : Nat) (a' s' : Int), spec_l01Cur_size.f l a s 20 = some ((n : Int), a', s') ∧ n ≤ 20 ∧ Ok a' s' (b + 1) := by
  unfold spec_l01Cur_size.f
  have hlen := hl.1
  have hd : 0 ≤ (l.length : Int) / 8 ∧ (l.length : Int) / 8 ≤ 1048576 := by omega
  generalize (l.length : Int) / 8 = q at hd
  rw [show wrap64 q = q from by unfold wrap64; omega, show wrap64 (1 + q) = 1 + q from by unfold wrap64; omega]
  have hm : 1 ≤ mn 20 (1 + q) ∧ mn 20 (1 + q) ≤ 20 := by unfold mn; split <;> omega
  generalize mn 20 (1 + q) = m at hm
  rw [show wrap64 (m + 1) = m + 1 from by unfold wrap64; omega]
  obtain ⟨r, a1, s1, e1, k1, k2, k3, o1⟩ := pick_ok hl h (by omega) (m + 1)
  rw [e1]
  simp only [Option.bind_some]
  have := k2 (by omega)
  obtain ⟨n, rfl⟩ := Int.eq_ofNat_of_zero_le k1
  exact ⟨n, a1, s1, rfl, by omega, o1⟩
theorem net_l0 {l : List Int} (hl : Bytes l) : ∀ (n k : Nat) (a s b : Int), Ok a s b → b ≤ 300000000000 → 1 ≤ n → n < 11 → n + 400 < k →
    ∃ m ws a' s', spec_l01Cur_net.l0 k l a s (n : Int) = some (m, ws, a', s') ∧ ws.length ≤ 200 ∧ Ok a' s' (b + 1) := by
  intro n
  induction n with
  | zero => intro k a s b h hb h1; omega
  | succ n ih =>
    intro k a s b h hb h1 hn hk
    obtain ⟨k, rfl⟩ : ∃ m, k = m + 1 := ⟨k - 1, by omega⟩
    obtain ⟨t, e, t1, t2⟩ := two_ok (n + 1) h1 hn k (by omega)
    simp only [spec_l01Cur_net.l0]
    rw [e, Option.bind_some]
    cases t with
    | false =>
      have := t1 rfl
      rw [if_pos (by decide), show wrap64 (((n + 1 : Nat) : Int) - 1) = (n : Int) from by unfold wrap64; omega]
      exact ih k a s b h hb (by omega) (by omega) (by omega)
    | true =>
      obtain ⟨⟨m, ws, e1, l1⟩, ⟨m', ws', e2, l2⟩⟩ := t2 rfl
      rw [if_neg (by decide)]
      obtain ⟨r, a1, s1, e3, o1⟩ := once_ok hl h (by omega) 2
      rw [e3, Option.bind_some]
      dsimp only
      cases r with
      | true => rw [if_pos rfl, e1, Option.bind_some]; exact ⟨m, ws, a1, s1, rfl, by omega, o1⟩
      | false => rw [if_neg (by decide), e2, Option.bind_some]; exact ⟨m', ws', a1, s1, rfl, by omega, o1⟩
theorem net_end {l : List Int} (hl : Bytes l) (k : Nat) (p c m : Int) (ws : List S55) {a s b : Int} (h : Ok a s b) (hb : b ≤ 300000000000) (hw : ws.length ≤ 190) :
    ∃ m' ws' a' s', spec_l01Cur_net.j3 (k + 1) p c false l a s m ws = some (m', ws', a', s') ∧ ws'.length ≤ 200 ∧ Ok a' s' (b + 2) := by
  simp only [spec_l01Cur_net.j3]
  rw [if_neg (by decide)]
  by_cases c0 : (ws.length : Int) > 0
  · rw [if_pos c0]
    obtain ⟨r, a1, s1, e1, o1⟩ := once_ok hl h (by omega) 3
    rw [e1, Option.bind_some]
    dsimp only
    cases r with
    | false => rw [if_neg (by decide)]; exact ⟨_, _, _, _, rfl, by omega, o1.up (by omega)⟩
    | true =>
      rw [if_pos rfl]
      obtain ⟨r2, a2, s2, e2, k1, k2, k3, o2⟩ := pick_ok hl o1 (by omega) (ws.length : Int)
      have hr : r2 < (ws.length : Int) := by
        by_cases c1 : 2 ≤ (ws.length : Int)
        · exact k2 c1
        · have := k3 (by omega); omega
      obtain ⟨i, rfl⟩ := Int.eq_ofNat_of_zero_le k1
      rw [e2, Option.bind_some]
      dsimp only
      have ew : wrap64 ((i : Int) + 1) = ((i + 1 : Nat) : Int) := by unfold wrap64; omega
      rw [Option.bind_some, if_pos k1, if_pos (by omega), Option.bind_some, Int.toNat_natCast, if_pos (by simp; omega), Option.bind_some, ew, if_pos (by omega), if_pos (by omega), Option.bind_some, Int.toNat_natCast, if_pos (by simp; omega)]
      exact ⟨_, _, _, _, rfl, by simp; omega, o2.up (by omega)⟩
  · rw [if_neg c0]
    exact ⟨_, _, _, _, rfl, by omega, h.up (by omega)⟩
theorem net_l1 {l : List Int} (hl : Bytes l) (p : Int) (hp : 1 ≤ p ∧ p ≤ 20) (m : Int) : ∀ (d k : Nat) (ws : List S55) (a s b : Int), Ok a s b → b + 10 * (d : Int) ≤ 200000000000 → ws.length + d ≤ 180 → 2 * d + 5 < k →
    ∃ m' ws' a' s', spec_l01Cur_net.l1 k p (d : Int) l a s m ws = some (m', ws', a', s') ∧ ws'.length ≤ 200 ∧ Ok a' s' (b + 10 * (d : Int) + 2) := by
  intro d
  induction d with
  | zero =>
    intro k ws a s b h hb hw hk
    obtain ⟨k, rfl⟩ : ∃ m, k = m + 2 := ⟨k - 2, by omega⟩
    rw [show k + 2 = (k + 1) + 1 from rfl]
    simp only [spec_l01Cur_net.l1]
    rw [if_neg (by omega)]
    obtain ⟨m', ws', a', s', e, l1, o⟩ := net_end hl k p ((0 : Nat) : Int) m ws h (by omega) (by omega)
    exact ⟨m', ws', a', s', e, l1, o.up (by omega)⟩
  | succ d ih =>
    intro k ws a s b h hb hw hk
    obtain ⟨k, rfl⟩ : ∃ m, k = m + 2 := ⟨k - 2, by omega⟩
    rw [show k + 2 = (k + 1) + 1 from rfl]
    simp only [spec_l01Cur_net.l1]
    rw [if_pos (by omega)]
    by_cases c : p > 1
    · rw [decide_eq_true c]
      simp only [spec_l01Cur_net.j3]
      rw [if_pos trivial]
      obtain ⟨r1, a1, s1, e1, k1, k2, _, o1⟩ := pick_ok hl h (by omega) (wrap64 (p - 1))
      rw [e1, Option.bind_some]
      dsimp only
      obtain ⟨r2, a2, s2, e2, k3, k4, _, o2⟩ := pick_ok hl o1 (by omega) (wrap64 (wrap64 (p - 1) - r1))
      rw [e2, Option.bind_some]
      dsimp only
      rw [if_pos (by omega), show wrap64 (((d + 1 : Nat) : Int) - 1) = (d : Int) from by unfold wrap64; omega]
      obtain ⟨m', ws', a', s', e, l1, o⟩ := ih k (ws ++ [⟨r1, wrap64 (wrap64 (r1 + 1) + r2)⟩]) a2 s2 _ o2 (by omega) (by simp; omega) (by omega)
      exact ⟨m', ws', a', s', e, l1, o.up (by omega)⟩
    · rw [decide_eq_false c]
      obtain ⟨m', ws', a', s', e, l1, o⟩ := net_end hl k p ((d + 1 : Nat) : Int) m ws h (by omega) (by omega)
      exact ⟨m', ws', a', s', e, l1, o.up (by omega)⟩
theorem net_j1 {l : List Int} (hl : Bytes l) (p : Int) (hp : 1 ≤ p ∧ p ≤ 20) (m : Int) (k : Nat) (hk : 60 < k) (ws : List S55) {a s b : Int} (h : Ok a s b) (hb : b ≤ 100000000000) (hw : ws.length ≤ 100) :
    ∃ m' ws' a' s', spec_l01Cur_net.j1 k p l a s m ws = some (m', ws', a', s') ∧ ws'.length ≤ 200 ∧ Ok a' s' (b + 300) := by
  obtain ⟨k, rfl⟩ : ∃ m, k = m + 1 := ⟨k - 1, by omega⟩
  simp only [spec_l01Cur_net.j1]
  obtain ⟨n, a1, s1, e1, hn, o1⟩ := size20_ok hl h (by omega)
  rw [e1, Option.bind_some]
  dsimp only
  obtain ⟨m', ws', a', s', e, l1, o⟩ := net_l1 hl p hp m n k ws a1 s1 _ o1 (by omega) (by omega) (by omega)
  exact ⟨m', ws', a', s', e, l1, o.up (by omega)⟩
theorem net_ok {l : List Int} (hl : Bytes l) {a s b : Int} (h : Ok a s b) (hb : b ≤ 90000000000) (k : Nat) (hk : 500 < k) :
    ∃ m ws a' s', spec_l01Cur_net.f k l a s 10 = some (m, ws, a', s') ∧ ws.length ≤ 200 ∧ Ok a' s' (b + 400) := by
  unfold spec_l01Cur_net.f
  obtain ⟨r1, a1, s1, e1, k1, k2, _, o1⟩ := pick_ok hl h (by omega) 10
  rw [e1, Option.bind_some]
  dsimp only
  obtain ⟨r2, a2, s2, e2, _, _, _, o2⟩ := pick_ok hl o1 (by omega) 4
  rw [e2, Option.bind_some]
  dsimp only
  have := k2 (by omega)
  obtain ⟨n, rfl⟩ := Int.eq_ofNat_of_zero_le k1
  rw [show wrap64 (1 + (n : Int)) = ((n + 1 : Nat) : Int) from by unfold wrap64; omega]
  by_cases c0 : r2 = 0
  · rw [if_pos c0]
    obtain ⟨m, ws, e, hw⟩ := bubble_ok (n + 1) (by omega) k (by omega)
    rw [e, Option.bind_some]
    dsimp only
    obtain ⟨m', ws', a', s', e, l1, o⟩ := net_j1 hl ((n + 1 : Nat) : Int) (by omega) m k (by omega) ws o2 (by omega) hw
    exact ⟨m', ws', a', s', e, l1, o.up (by omega)⟩
  · rw [if_neg c0]
    by_cases c1 : r2 = 1
    · rw [if_pos c1]
      obtain ⟨m', ws', a', s', e, l1, o⟩ := net_l0 hl (n + 1) k a2 s2 _ o2 (by omega) (by omega) (by omega) (by omega)
      exact ⟨m', ws', a', s', e, l1, o.up (by omega)⟩
    · rw [if_neg c1]
      obtain ⟨m', ws', a', s', e, l1, o⟩ := net_j1 hl ((n + 1 : Nat) : Int) (by omega) ((n + 1 : Nat) : Int) k (by omega) [] o2 (by omega) (by simp)
      exact ⟨m', ws', a', s', e, l1, o.up (by omega)⟩
theorem bad_l0 {l : List Int} (hl : Bytes l) (m : Int) : ∀ (d k : Nat) (ws : List S55) (a s b : Int), Ok a s b → b + 10 * (d : Int) ≤ 300000000000 → 2102 - ws.length = d → ws.length ≤ 2200 → d < k →
    ∃ m' ws' a' s', spec_l01Cur_badNet.l0 k l a s m ws = some (m', ws', a', s') ∧ ws'.length ≤ 2300 ∧ Ok a' s' (b + 10 * (d : Int) + 10) := by
  intro d
  induction d with
  | zero =>
    intro k ws a s b h hb hd hw hk
    obtain ⟨k, rfl⟩ : ∃ m, k = m + 1 := ⟨k - 1, by omega⟩
    simp only [spec_l01Cur_badNet.l0]
    obtain ⟨r, a1, s1, e1, k1, k2, _, o1⟩ := pick_ok hl h (by omega) 2
    rw [e1, Option.bind_some]
    dsimp only
    have := k2 (by omega)
    rw [show wrap64 (2100 + r) = 2100 + r from by unfold wrap64; omega, if_neg (by omega)]
    exact ⟨_, _, _, _, rfl, by omega, o1.up (by omega)⟩
  | succ d ih =>
    intro k ws a s b h hb hd hw hk
    obtain ⟨k, rfl⟩ : ∃ m, k = m + 1 := ⟨k - 1, by omega⟩
    simp only [spec_l01Cur_badNet.l0]
    obtain ⟨r, a1, s1, e1, k1, k2, _, o1⟩ := pick_ok hl h (by omega) 2
    rw [e1, Option.bind_some]
    dsimp only
    have := k2 (by omega)
    rw [show wrap64 (2100 + r) = 2100 + r from by unfold wrap64; omega]
    by_cases c : (ws.length : Int) < 2100 + r
    · rw [if_pos c, if_pos (by omega)]
      obtain ⟨m', ws', a', s', e, l1, o⟩ := ih k (ws ++ [⟨0, 1⟩]) a1 s1 _ o1 (by omega) (by simp; omega) (by simp; omega) (by omega)
      exact ⟨m', ws', a', s', e, l1, o.up (by omega)⟩
    · rw [if_neg c]
      exact ⟨_, _, _, _, rfl, by omega, o1.up (by omega)⟩
theorem badNet_ok {l : List Int} (hl : Bytes l) {a s b : Int} (h : Ok a s b) (hb : b ≤ 80000000000) (k : Nat) (hk : 2300 < k) :
    ∃ m ws a' s', spec_l01Cur_badNet.f k l a s = some (m, ws, a', s') ∧ ws.length ≤ 2300 ∧ Ok a' s' (b + 30000) := by
  unfold spec_l01Cur_badNet.f
  obtain ⟨m, ws, a1, s1, e1, hw, o1⟩ := net_ok hl h (by omega) k (by omega)
  rw [e1, Option.bind_some]
  dsimp only
  obtain ⟨r2, a2, s2, e2, _, _, _, o2⟩ := pick_ok hl o1 (by omega) 12
  rw [e2, Option.bind_some]
  dsimp only
  by_cases c0 : r2 = 0
  · rw [if_pos c0]
    obtain ⟨r3, a3, s3, e3, _, o3⟩ := raw_ok hl o2 (by omega)
    rw [e3, Option.bind_some]
    dsimp only
    rw [Option.bind_some]
    obtain ⟨r4, a4, s4, e4, k1, k2, _, o4⟩ := pick_ok hl o3 (by omega) 4
    rw [e4, Option.bind_some]
    dsimp only
    have := k2 (by omega)
    rw [if_pos k1, if_pos (by simpa using this)]
    exact ⟨_, _, _, _, rfl, by omega, o4.up (by omega)⟩
  · rw [if_neg c0]
    by_cases c1 : r2 = 1
    · rw [if_pos c1]
      obtain ⟨r3, a3, s3, e3, _, o3⟩ := raw_ok hl o2 (by omega)
      rw [e3, Option.bind_some]
      dsimp only
      obtain ⟨r4, a4, s4, e4, _, o4⟩ := raw_ok hl o3 (by omega)
      rw [e4, Option.bind_some]
      dsimp only
      rw [if_pos (by omega)]
      exact ⟨_, _, _, _, rfl, by simp; omega, o4.up (by omega)⟩
    · rw [if_neg c1]
      by_cases c2 : r2 = 2
      · rw [if_pos c2]
        obtain ⟨r3, a3, s3, e3, o3⟩ := once_ok hl o2 (by omega) 4
        rw [e3, Option.bind_some]
        dsimp only
        cases r3 with
        | true =>
          rw [if_pos rfl]
          obtain ⟨m', ws', a', s', e, l1, o⟩ := bad_l0 hl m (2102 - ws.length) k ws a3 s3 _ o3 (by omega) rfl (by omega) (by omega)
          exact ⟨m', ws', a', s', e, l1, o.up (by omega)⟩
        | false =>
          rw [if_neg (by decide)]
          exact ⟨_, _, _, _, rfl, by omega, o3.up (by omega)⟩
      · rw [if_neg c2]
        exact ⟨_, _, _, _, rfl, by omega, o2.up (by omega)⟩
theorem lawpick_l0 {l : List Int} (hl : Bytes l) (hp : 0 < l.length) (a n : Int) (ha : 0 ≤ a ∧ a ≤ 1000000) (hn : n ≠ 0) : ∀ (d k i : Nat) (x : Int), 3 - i = d → i ≤ 3 → d < k → ∃ r, laws_pick.l0 k l a n x (i : Int) = some r := by
  intro d
  induction d with
  | zero =>
    intro k i x hd hi hk
    obtain ⟨k, rfl⟩ : ∃ m, k = m + 1 := ⟨k - 1, by omega⟩
    simp only [laws_pick.l0]
    rw [if_neg (by omega), if_neg hn]
    exact ⟨_, rfl⟩
  | succ d ih =>
    intro k i x hd hi hk
    obtain ⟨k, rfl⟩ : ∃ m, k = m + 1 := ⟨k - 1, by omega⟩
    have hm := tmod_pos (a := wrap64 (a + (i : Int))) (n := (l.length : Int)) (by unfold wrap64; omega) (by omega)
    simp only [laws_pick.l0]
    rw [if_pos (by omega), if_neg (by omega), if_pos hm.1, if_pos hm.2, show wrap64 ((i : Int) + 1) = ((i + 1 : Nat) : Int) from by unfold wrap64; omega]
    exact ih k (i + 1) _ (by omega) (by omega) (by omega)
theorem lawpick_ok {l : List Int} (hl : Bytes l) (a n : Int) (ha : 0 ≤ a ∧ a ≤ 1000000) (k : Nat) (hk : 6 < k) : ∃ r, laws_pick.f k l a n = some r := by
  obtain ⟨k, rfl⟩ : ∃ m, k = m + 1 := ⟨k - 1, by omega⟩
  unfold laws_pick.f
  by_cases c : (l.length : Int) = 0
  · rw [if_pos c]
    exact ⟨0, by simp only [laws_pick.j0]; rw [if_pos trivial]⟩
  · rw [if_neg c]
    simp only [laws_pick.j0]
    by_cases c1 : n < 2
    · rw [decide_eq_true c1, if_pos rfl]; exact ⟨0, rfl⟩
    · rw [decide_eq_false c1, if_neg (by decide)]
      exact lawpick_l0 hl (by omega) a n ha (by omega) 3 k 0 0 (by omega) (by omega) (by omega)
theorem drawJoin_ok {l : List Int} (hl : Bytes l) (k : Nat) (hk : 2400 < k) : ∃ n a m b, spec_DrawNetJoin.f k l = some (n, a, m, b) ∧ a.length ≤ 2300 ∧ b.length ≤ 2300 := by
  unfold spec_DrawNetJoin.f
  obtain ⟨s, e0, o0⟩ := open_ok hl
  rw [e0, Option.bind_some]
  dsimp only
  obtain ⟨n, a, a1, s1, e1, h1, o1⟩ := badNet_ok hl o0 (by omega) k (by omega)
  rw [e1, Option.bind_some]
  dsimp only
  obtain ⟨m, b, a2, s2, e2, h2, o2⟩ := badNet_ok hl o1 (by omega) k (by omega)
  rw [e2, Option.bind_some]
  dsimp only
  obtain ⟨r, a3, s3, e3, o3⟩ := once_ok hl o2 (by omega) 2
  rw [e3, Option.bind_some]
  dsimp only
  cases r with
  | true => rw [if_pos rfl]; exact ⟨_, _, _, _, rfl, h1, h2⟩
  | false => rw [if_neg (by decide)]; exact ⟨_, _, _, _, rfl, h1, h2⟩
def dep1 (x : S55) (l : List Int) : List Int := (l.set x.f0.toNat (mx (rd l x.f0) (rd l x.f1) + 1)).set x.f1.toNat (mx (rd l x.f0) (rd l x.f1) + 1)
def depT : List S55 → List Int → List Int
  | [], l => l
  | x :: ws, l => depT ws (dep1 x l)
theorem dep1_len (x : S55) (l : List Int) : (dep1 x l).length = l.length := by simp [dep1]
theorem depT_len : ∀ (ws : List S55) (l : List Int), (depT ws l).length = l.length
  | [], l => rfl
  | x :: ws, l => by unfold depT; rw [depT_len ws, dep1_len]
theorem depT_append : ∀ (a b : List S55) (l : List Int), depT (a ++ b) l = depT b (depT a l)
  | [], b, l => rfl
  | x :: a, b, l => depT_append a b _
theorem runT_append : ∀ (a b : List S55) (l : List Int), runT (a ++ b) l = runT b (runT a l)
  | [], b, l => rfl
  | x :: a, b, l => runT_append a b _
theorem dep1_at (x : S55) (l : List Int) (n : Nat) (hl : l.length = n) (h : 0 ≤ x.f0 ∧ x.f0 < x.f1 ∧ x.f1 < (n : Int)) (j : Nat) (hj : j < n) :
    rd (dep1 x l) (j : Int) = if (j : Int) = x.f0 ∨ (j : Int) = x.f1 then mx (rd l x.f0) (rd l x.f1) + 1 else rd l (j : Int) := by
  unfold dep1
  rw [rd_set _ _ _ _ (by simp; omega), rd_set _ _ _ _ (by omega)]
  by_cases c1 : (j : Int) = x.f1
  · rw [if_pos (by omega), if_pos (.inr c1)]
  · rw [if_neg (by omega)]
    by_cases c0 : (j : Int) = x.f0
    · rw [if_pos (by omega), if_pos (.inl c0)]
    · rw [if_neg (by omega), if_neg (by omega)]
theorem mx_ge (a b : Int) : a ≤ mx a b ∧ b ≤ mx a b ∧ (mx a b = a ∨ mx a b = b) := by unfold mx; split <;> omega
def inB (n : Nat) (l : List Int) (B : Int) : Prop := ∀ j : Nat, j < n → 0 ≤ rd l (j : Int) ∧ rd l (j : Int) ≤ B
theorem dep1_in (x : S55) (l : List Int) (n : Nat) (hl : l.length = n) (h : 0 ≤ x.f0 ∧ x.f0 < x.f1 ∧ x.f1 < (n : Int)) (B : Int) (hB : inB n l B) : inB n (dep1 x l) (B + 1) := by
  intro j hj
  rw [dep1_at x l n hl h j hj]
  obtain ⟨a, ha⟩ := Int.eq_ofNat_of_zero_le h.1
  obtain ⟨b, hb⟩ := Int.eq_ofNat_of_zero_le (show 0 ≤ x.f1 by omega)
  have ga := hB a (by omega)
  have gb := hB b (by omega)
  have gj := hB j hj
  rw [ha, hb]
  have := mx_ge (rd l (a : Int)) (rd l (b : Int))
  split <;> omega
theorem depR_eq (n : Nat) : ∀ (ws : List S55) (l : List Int) (B : Int), l.length = n → inW n ws → inB n l B → B + (ws.length : Int) ≤ 1000000 → depR ws l = some (depT ws l) ∧ inB n (depT ws l) (B + (ws.length : Int))
  | [], l, B, hl, _, hB, _ => ⟨rfl, fun j hj => by have := hB j hj; simp only [depT, List.length_nil]; omega⟩
  | x :: ws, l, B, hl, hw, hB, hb => by
    have hx := hw x (by simp)
    simp only [List.length_cons] at hb ⊢
    have e : depL x l = some (dep1 x l) := by
      unfold depL dep1
      obtain ⟨a, ha⟩ := Int.eq_ofNat_of_zero_le hx.1
      obtain ⟨b, hb2⟩ := Int.eq_ofNat_of_zero_le (show 0 ≤ x.f1 by omega)
      have ga := hB a (by omega)
      have gb := hB b (by omega)
      rw [← ha] at ga
      rw [← hb2] at gb
      have hm := mx_ge (rd l x.f0) (rd l x.f1)
      rw [if_pos ⟨by omega, by omega, by omega, by omega⟩, show wrap64 (mx (rd l x.f0) (rd l x.f1) + 1) = mx (rd l x.f0) (rd l x.f1) + 1 from by unfold wrap64; omega]
    have ih := depR_eq n ws (dep1 x l) (B + 1) (by rw [dep1_len]; exact hl) (fun y hy => hw y (by simp [hy])) (dep1_in x l n hl hx B hB) (by omega)
    refine ⟨?_, fun j hj => ?_⟩
    · show (depL x l).bind (depR ws) = _
      rw [e]
      exact ih.1
    · have := ih.2 j hj
      rw [show depT (x :: ws) l = depT ws (dep1 x l) from rfl]
      omega
theorem dep_shift (n : Nat) (c : Int) : ∀ (ws : List S55) (l s : List Int), l.length = n → s.length = n → inW n ws → (∀ j : Nat, j < n → rd l (j : Int) ≤ rd s (j : Int) + c) → ∀ j : Nat, j < n → rd (depT ws l) (j : Int) ≤ rd (depT ws s) (j : Int) + c
  | [], l, s, _, _, _, h => h
  | x :: ws, l, s, hl, hs, hw, h => by
    have hx := hw x (by simp)
    refine dep_shift n c ws _ _ (by rw [dep1_len]; exact hl) (by rw [dep1_len]; exact hs) (fun y hy => hw y (by simp [hy])) (fun j hj => ?_)
    rw [dep1_at x l n hl hx j hj, dep1_at x s n hs hx j hj]
    obtain ⟨a, ha⟩ := Int.eq_ofNat_of_zero_le hx.1
    obtain ⟨b, hb⟩ := Int.eq_ofNat_of_zero_le (show 0 ≤ x.f1 by omega)
    have ga := h a (by omega)
    have gb := h b (by omega)
    have gj := h j hj
    rw [ha, hb]
    have m1 := mx_ge (rd l (a : Int)) (rd l (b : Int))
    have m2 := mx_ge (rd s (a : Int)) (rd s (b : Int))
    split <;> omega
theorem dep_grow (n : Nat) : ∀ (ws : List S55) (l : List Int), l.length = n → inW n ws → ∀ j : Nat, j < n → rd l (j : Int) ≤ rd (depT ws l) (j : Int)
  | [], l, _, _ => fun j _ => Int.le_refl _
  | x :: ws, l, hl, hw => by
    have hx := hw x (by simp)
    intro j hj
    have ih := dep_grow n ws (dep1 x l) (by rw [dep1_len]; exact hl) (fun y hy => hw y (by simp [hy])) j hj
    rw [dep1_at x l n hl hx j hj] at ih
    have m1 := mx_ge (rd l x.f0) (rd l x.f1)
    show rd l (j : Int) ≤ rd (depT ws (dep1 x l)) (j : Int)
    by_cases c : (j : Int) = x.f0 ∨ (j : Int) = x.f1
    · rw [if_pos c] at ih
      rcases c with c | c <;> rw [← c] at m1 ih <;> omega
    · rw [if_neg c] at ih
      exact ih
theorem max_ok (q : List Int) (n : Nat) (h1 : 1 ≤ n) (hq : q.length = n) : ∃ V, slices_Max_int_int.f q = some V ∧ (∀ j : Nat, j < n → rd q (j : Int) ≤ V) ∧ ∃ p : Nat, p < n ∧ rd q (p : Int) = V := by
  match q, hq with
  | [], hq => simp at hq; omega
  | x :: l, hq =>
    refine ⟨maxI l x, rfl, ?_, ?_⟩
    · intro j hj
      rw [rd_at _ _ (by omega)]
      have ge := maxI_ge l x
      have hm : (x :: l)[j]'(by omega) ∈ x :: l := List.getElem_mem _
      rcases List.mem_cons.1 hm with h | h
      · rw [h]; exact ge.1
      · exact ge.2 _ h
    · have hm : maxI l x ∈ x :: l := by
        rcases maxI_mem l x with h | h
        · rw [h]; simp
        · exact List.mem_cons_of_mem _ h
      obtain ⟨p, hp, e⟩ := List.getElem_of_mem hm
      exact ⟨p, by omega, by rw [rd_at _ _ hp]; exact e⟩
theorem rd_rep (n j : Nat) : rd (List.replicate n (0 : Int)) (j : Int) = 0 := by
  unfold rd
  rw [Int.toNat_natCast, List.getD_eq_getElem?_getD, List.getElem?_replicate]
  split <;> rfl
theorem depth_ok (n : Nat) (h1 : 1 ≤ n) (ws : List S55) (hb : netB (n : Int) ws = true) : ∃ V, impl_NetDepth.f (n : Int) ws = some V ∧ 0 ≤ V ∧ V ≤ 2100 ∧ (∀ j : Nat, j < n → rd (depT ws (List.replicate n 0)) (j : Int) ≤ V) ∧ ∃ p : Nat, p < n ∧ rd (depT ws (List.replicate n 0)) (p : Int) = V := by
  obtain ⟨q1, q2, q3, q4⟩ := netB_in _ ws hb
  rw [Int.toNat_natCast] at q4
  obtain ⟨e, hB⟩ := depR_eq n ws (List.replicate n 0) 0 (by simp) q4 (fun j hj => by rw [rd_rep]; omega) (by omega)
  obtain ⟨V, e2, h2, p, hp, hV⟩ := max_ok (depT ws (List.replicate n 0)) n h1 (by rw [depT_len]; simp)
  have := hB p hp
  refine ⟨V, ?_, by omega, by omega, h2, p, hp, hV⟩
  unfold impl_NetDepth.f
  rw [isNet_eq, Option.bind_some, if_pos hb, Int.toNat_natCast, e, Option.bind_some, e2]
theorem same_l0 (l : List Int) (hl : l.length ≤ 100) : ∀ (d k i : Nat), i ≤ l.length → l.length - i = d → d < k → laws_same.l0 k l l (i : Int) = some true := by
  intro d
  induction d with
  | zero =>
    intro k i hi hd hk
    obtain ⟨k, rfl⟩ : ∃ m, k = m + 1 := ⟨k - 1, by omega⟩
    simp only [laws_same.l0]
    rw [if_neg (by omega)]
  | succ d ih =>
    intro k i hi hd hk
    obtain ⟨k, rfl⟩ : ∃ m, k = m + 1 := ⟨k - 1, by omega⟩
    simp only [laws_same.l0]
    rw [if_pos (by omega), if_pos (by omega), if_pos (by omega), if_pos trivial, wr1 i (by omega)]
    exact ih k (i + 1) (by omega) (by omega) (by omega)
theorem same_eq (l : List Int) (hl : l.length ≤ 100) (k : Nat) (hk : 100 < k) : laws_same.f k l l = some true := by
  unfold laws_same.f
  rw [if_pos rfl]
  exact same_l0 l hl l.length k 0 (by omega) (by omega) (by omega)
theorem specNetRun (n : Nat) (ws : List S55) (hb : netB (n : Int) ws = true) (l : List Int) (hl : l.length = n) (k : Nat) (hk : 2200 < k) : spec_NetRun.f k (n : Int) ws l = some (runT ws l) := by
  obtain ⟨h1, h2, h3, h4⟩ := netB_in _ ws hb
  rw [Int.toNat_natCast] at h4
  unfold spec_NetRun.f
  rw [netOk_eq _ ws (by omega) k (by omega), Option.bind_some, if_pos hb, if_pos (by omega), specRun_eq _ ws l h3 (by omega) (by rw [hl]; exact h4) k (by omega)]
  rfl
theorem netB_append (n : Int) (a b : List S55) (ha : netB n a = true) (hb : netB n b = true) (hl : a.length + b.length ≤ 2100) : netB n (a ++ b) = true := by
  simp only [netB, Bool.and_eq_true, decide_eq_true_eq, Bool.not_eq_true', List.any_eq_false, List.length_append] at *
  refine ⟨ha.1, hl, fun x hx => ?_⟩
  rcases List.mem_append.1 hx with h | h
  · exact ha.2.2 x h
  · exact hb.2.2 x h
theorem law_l0 {l : List Int} (hl : Bytes l) (n : Nat) (a b : List S55) (ha : netB (n : Int) a = true) (hb : netB (n : Int) b = true) (hab : a.length + b.length ≤ 2100) : ∀ (d k : Nat) (X : List Int) (i : Nat), n - i = d → i ≤ n → X.length = i → d + 2300 < k →
    laws_FnNetJoin.l0 k l X (i : Int) (n : Int) a (n : Int) b (n : Int) (a ++ b) = some true := by
  have hj := netB_append (n : Int) a b ha hb hab
  obtain ⟨h1, h2, h3, h4⟩ := netB_in _ a ha
  obtain ⟨_, _, g3, g4⟩ := netB_in _ b hb
  rw [Int.toNat_natCast] at h4 g4
  intro d
  induction d with
  | zero =>
    intro k X i hd hi hX hk
    obtain ⟨k, rfl⟩ : ∃ m, k = m + 1 := ⟨k - 1, by omega⟩
    have hXn : X.length = n := by omega
    obtain ⟨Vj, ej, j0, j1, j2, pj, hpj, hVj⟩ := depth_ok n (by omega) (a ++ b) hj
    obtain ⟨Va, ea, a0, a1, a2, pa, hpa, hVa⟩ := depth_ok n (by omega) a ha
    obtain ⟨Vb, eb, b0, b1, b2, pb, hpb, hVb⟩ := depth_ok n (by omega) b hb
    have hle : Vj ≤ Va + Vb := by
      have := dep_shift n Va b (depT a (List.replicate n 0)) (List.replicate n 0) (by rw [depT_len]; simp) (by simp) g4 (fun j hj => by rw [rd_rep]; have := a2 j hj; omega) pj hpj
      rw [← depT_append, hVj] at this
      have := b2 pj hpj
      omega
    have hge : Va ≤ Vj := by
      have := dep_grow n b (depT a (List.replicate n 0)) (by rw [depT_len]; simp) g4 pa hpa
      rw [← depT_append, hVa] at this
      have := j2 pa hpa
      omega
    simp only [laws_FnNetJoin.l0]
    rw [if_neg (by omega), implNetRun n (a ++ b) hj X hXn, Option.bind_some, implNetRun n a ha X hXn, Option.bind_some, implNetRun n b hb _ (by rw [runT_len]; exact hXn), Option.bind_some, ← runT_append, same_eq _ (by rw [runT_len]; omega) k (by omega), Option.bind_some, if_pos rfl, Option.bind_some, specNetRun n (a ++ b) hj X hXn k (by omega), Option.bind_some, same_eq _ (by rw [runT_len]; omega) k (by omega), Option.bind_some, if_pos rfl, ej, Option.bind_some, ea, Option.bind_some, eb, Option.bind_some, show wrap64 (Va + Vb) = Va + Vb from by unfold wrap64; omega, if_pos hle, Option.bind_some, Option.bind_some, if_pos hge]
    rw [List.length_append, show wrap64 ((a.length : Int) + (b.length : Int)) = ((a.length + b.length : Nat) : Int) from by unfold wrap64; omega, beq_self_eq_true]
  | succ d ih =>
    intro k X i hd hi hX hk
    obtain ⟨k, rfl⟩ : ∃ m, k = m + 1 := ⟨k - 1, by omega⟩
    obtain ⟨r, er⟩ := lawpick_ok hl (7 * (i : Int)) 30 (by omega) k (by omega)
    simp only [laws_FnNetJoin.l0]
    rw [if_pos (by omega), show wrap64 (7 * (i : Int)) = 7 * (i : Int) from by unfold wrap64; omega, er, Option.bind_some, if_pos (by omega), wr1 i (by omega)]
    exact ih k _ (i + 1) (by omega) (by omega) (by simp [hX]) (by omega)
theorem FnNetJoin : laws_FnNetJoin.Pure := by
  intro l0 hl1 hl2 hb
  refine ⟨5000, ?_⟩
  unfold laws_FnNetJoin.f laws_big.f
  rw [Option.bind_some]
  by_cases c : (l0.length : Int) > 1048576
  · rw [if_pos (decide_eq_true c)]
  rw [if_neg (by simpa using c)]
  have hl : Bytes l0 := bytes_of (by omega) hb
  obtain ⟨n, a, m, b, e, ha, hbl⟩ := drawJoin_ok hl 5000 (by omega)
  rw [e, Option.bind_some]
  dsimp only
  rw [sJoin n a m b (by omega) (by omega) 5000 (by omega), Option.bind_some, iJoin, Option.bind_some, bne_self_eq_false, if_neg (by decide)]
  by_cases h : netB n a = true ∧ netB m b = true ∧ n = m ∧ a.length + b.length ≤ 2100
  · have ej : joinR n a m b = (n, a ++ b, true) := by unfold joinR; rw [if_pos h]
    obtain ⟨h1, h2, h3, h4⟩ := h
    subst h3
    obtain ⟨q1, _⟩ := netB_in n a h1
    obtain ⟨p, rfl⟩ := Int.eq_ofNat_of_zero_le (show 0 ≤ n by omega)
    rw [ej]
    show laws_FnNetJoin.j0 (4999 + 1) l0 true true false (p : Int) a (p : Int) b (p : Int) (a ++ b) = some true
    simp only [laws_FnNetJoin.j0]
    rw [if_neg (by decide)]
    have := law_l0 hl p a b h1 h2 h4 p 4999 [] 0 (by omega) (by omega) rfl (by have := (netB_in _ a h1).2.1; omega)
    exact this
  · have ej : joinR n a m b = (0, [], false) := by unfold joinR; rw [if_neg h]
    rw [ej]
    show laws_FnNetJoin.j0 (4999 + 1) l0 false false true n a m b 0 [] = some true
    simp only [laws_FnNetJoin.j0]
    rw [if_pos trivial]
    rfl

end Go.Proofs.Ytekfpjblakindaa.Pure

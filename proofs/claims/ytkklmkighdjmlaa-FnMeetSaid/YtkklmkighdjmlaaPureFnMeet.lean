/- For every drawn tree and two of its leaves, the two paths have exactly the nodes in common that are at the level of their meeting or above; conditions: none. -/
import Derived.Test.YtkklmkighdjmlaaPFnMeetx4
namespace Go.Proofs.Ytkklmkighdjmlaa.Pure
open Go.RowKit Go.Proofs.Ytkklmkighdjmlaa.PFnMeet Go.Proofs.YtkklmkighdjmlaaW.PrintWords Go.Proofs.YtkklmkighdjmlaaW.PrintLast Go.Proofs.YtkklmkighdjmlaaW.PrintMore
set_option linter.unusedVariables false
set_option linter.unusedSimpArgs false

theorem pow_all : ∀ l : Nat, l < 7 → spec_l02Pow.f 20 (l : Int) = some ((2 ^ l : Nat) : Int) ∧ wrap64 ((shl .i64 1 (l : Int)) - 1) = ((2 ^ l : Nat) : Int) - 1 := by decide +kernel
def isL (a0 a1 : Int) : Bool := decide (0 ≤ a0 ∧ a0 ≤ 6 ∧ 0 ≤ a1 ∧ a1 < ((2 ^ a0.toNat : Nat) : Int))
theorem pow_k (k l : Nat) (hk : 20 ≤ k) (hl : l < 7) : spec_l02Pow.f k (l : Int) = some ((2 ^ l : Nat) : Int) :=
  at_rounds (g := fun k => spec_l02Pow.f k (l : Int)) (fun k => spec_l02Pow.mono (l : Int) k) hk (pow_all l hl).1
theorem leaf_spec (k : Nat) (hk : 20 ≤ k) (a0 a1 : Int) : spec_l11Leaf.f k a0 a1 = some (isL a0 a1) := by
  unfold spec_l11Leaf.f spec_l11Log.f isL
  by_cases h1 : 0 ≤ a0 ∧ a0 ≤ 6
  · obtain ⟨l, rfl⟩ := Int.eq_ofNat_of_zero_le h1.1
    have e1 := pow_k k l hk (by omega)
    have d1 : (l : Int) ≥ 0 := by omega
    have d2 : decide ((l : Int) ≤ 6) = true := decide_eq_true (by omega)
    rw [if_pos d1, d2, e1, Int.toNat_natCast]
    simp only [Option.bind_some, if_true]
    by_cases h3 : a1 ≥ 0
    · rw [if_pos h3]; congr 1; apply decide_eq_decide.2; omega
    · rw [if_neg h3]; congr 1; symm; apply decide_eq_false; omega
  · have e : decide (0 ≤ a0 ∧ a0 ≤ 6 ∧ 0 ≤ a1 ∧ a1 < ((2 ^ a0.toNat : Nat) : Int)) = false := decide_eq_false (by omega)
    rw [e]
    by_cases h2 : a0 ≥ 0
    · have h3 : decide (a0 ≤ 6) = false := decide_eq_false (by omega)
      rw [if_pos h2, h3]; rfl
    · rw [if_neg h2]; rfl
theorem leaf_impl (a0 a1 : Int) : impl_isLeaf.f a0 a1 = some (isL a0 a1) := by
  unfold impl_isLeaf.f impl_isLog.f impl_within.f isL
  by_cases h1 : 0 ≤ a0 ∧ a0 ≤ 6
  · obtain ⟨l, rfl⟩ := Int.eq_ofNat_of_zero_le h1.1
    have e2 := (pow_all l (by omega)).2
    have d1 : (l : Int) ≥ 0 := by omega
    have d2 : decide ((l : Int) ≤ 6) = true := decide_eq_true (by omega)
    rw [if_pos d1, d2, Int.toNat_natCast]
    simp only [Option.bind_some, if_true]
    rw [if_pos h1.1, e2]
    by_cases h3 : a1 ≥ 0
    · rw [if_pos h3]
      show some _ = some _
      congr 1; apply decide_eq_decide.2; omega
    · rw [if_neg h3]
      show some _ = some _
      congr 1; symm; apply decide_eq_false; omega
  · have e : decide (0 ≤ a0 ∧ a0 ≤ 6 ∧ 0 ≤ a1 ∧ a1 < ((2 ^ a0.toNat : Nat) : Int)) = false := decide_eq_false (by omega)
    rw [e]
    by_cases h2 : a0 ≥ 0
    · have h3 : decide (a0 ≤ 6) = false := decide_eq_false (by omega)
      rw [if_pos h2, h3]; rfl
    · rw [if_neg h2]; rfl
/-- The state of a reader of draws: where it stands, and its seed. -/
def Ok (at_ seed b : Int) : Prop := 0 ≤ at_ ∧ at_ ≤ b ∧ 0 ≤ seed ∧ seed < 65521
def Bytes (l : List Int) : Prop := l.length ≤ 1048576 ∧ ∀ x, x ∈ l → 0 ≤ x ∧ x ≤ 255
theorem Ok.up {a s b b' : Int} (h : Ok a s b) (hb : b ≤ b') : Ok a s b' := ⟨h.1, by have := h.2.1; omega, h.2.2⟩
theorem bytes_of {l : List Int} (h1 : l.length ≤ 1048576) (h2 : ∀ x, x ∈ l → (Lit.int .u8 x).wf = true) : Bytes l := by
  refine ⟨h1, fun x hx => ?_⟩
  have := h2 x hx
  simp [Lit.wf, IntKind.min, IntKind.max, IntKind.signed, IntKind.bits] at this
  omega
theorem rd_byte {l : List Int} (h : Bytes l) (i : Int) : 0 ≤ rd l i ∧ rd l i ≤ 255 := by
  unfold rd
  rw [List.getD_eq_getElem?_getD]
  cases e : l[i.toNat]? with
  | none => simp
  | some x => exact h.2 x (List.mem_of_getElem? e)
theorem tmod_pos {a n : Int} (h0 : 0 ≤ a) (hn : 0 < n) : 0 ≤ Int.tmod a n ∧ Int.tmod a n < n := by
  rw [Int.tmod_eq_emod_of_nonneg h0]
  exact ⟨Int.emod_nonneg _ (by omega), Int.emod_lt_of_pos _ hn⟩
theorem pick_ok {l : List Int} (hl : Bytes l) {a s b : Int} (h : Ok a s b) (hb : b ≤ 1000000000000) (n : Int) :
    ∃ r a' s', spec_l01Cur_pick.f l a s n = some (r, a', s') ∧ 0 ≤ r ∧ (2 ≤ n → r < n) ∧ (n < 2 → r = 0) ∧ Ok a' s' (b + 1) := by
  obtain ⟨h0, h1, h2, h3⟩ := h
  have hlen := hl.1
  unfold spec_l01Cur_pick.f
  by_cases c1 : n < 2
  · rw [if_pos c1]
    exact ⟨0, a, s, rfl, by omega, fun _ => by omega, fun _ => rfl, h0, by omega, h2, h3⟩
  · rw [if_neg c1]
    have w1 : wrap64 (a + 1) = a + 1 := by unfold wrap64; omega
    have w2 : wrap64 (s * 1103) = s * 1103 := by unfold wrap64; omega
    have w3 : wrap64 (s * 1103 + 12345) = s * 1103 + 12345 := by unfold wrap64; omega
    rw [w1, w2, w3]
    have hs := tmod_pos (a := s * 1103 + 12345) (n := 65521) (by omega) (by omega)
    generalize Int.tmod (s * 1103 + 12345) 65521 = s1 at hs
    have hok : Ok (a + 1) s1 (b + 1) := ⟨by omega, by omega, hs.1, hs.2⟩
    by_cases c2 : a < (l.length : Int)
    · rw [if_pos c2, if_pos h0, if_neg (by omega)]
      have hr := rd_byte hl a
      rw [show wrap64 (rd l a) = rd l a from by unfold wrap64; omega]
      have hm := tmod_pos (a := rd l a) (n := n) hr.1 (by omega)
      exact ⟨_, _, _, rfl, hm.1, fun _ => hm.2, fun h => absurd h c1, by omega, by omega, h2, h3⟩
    · rw [if_neg c2]
      by_cases c3 : (l.length : Int) > 0
      · rw [if_pos c3, if_neg (by omega)]
        have hi := tmod_pos (a := a) (n := (l.length : Int)) h0 c3
        rw [if_pos hi.1, if_pos hi.2, if_neg (by omega)]
        have hr := rd_byte hl (Int.tmod a (l.length : Int))
        generalize rd l (Int.tmod a (l.length : Int)) = y at hr
        have hd : 0 ≤ Int.tdiv s1 7 ∧ Int.tdiv s1 7 ≤ 65521 := by
          rw [Int.tdiv_eq_ediv_of_nonneg hs.1]; omega
        generalize Int.tdiv s1 7 = z at hd
        rw [show wrap64 z = z from by unfold wrap64; omega, show wrap64 y = y from by unfold wrap64; omega, show wrap64 (z + y) = z + y from by unfold wrap64; omega]
        have hm := tmod_pos (a := z + y) (n := n) (by omega) (by omega)
        exact ⟨_, _, _, rfl, hm.1, fun _ => hm.2, fun h => absurd h c1, hok⟩
      · rw [if_neg c3, if_neg (by omega)]
        have e : (0 : Int) % n = 0 := Int.zero_emod n
        rw [e]
        exact ⟨_, _, _, rfl, by omega, fun _ => by omega, fun h => absurd h c1, hok⟩
theorem raw_ok {l : List Int} (hl : Bytes l) {a s b : Int} (h : Ok a s b) (hb : b ≤ 900000000000) :
    ∃ r a' s', spec_l01Cur_raw.f l a s = some (r, a', s') ∧ (-9223372036854775808 ≤ r ∧ r ≤ 9223372036854775807) ∧ Ok a' s' (b + 2) := by
  obtain ⟨r1, a1, s1, e1, k1, k2, _, o1⟩ := pick_ok hl h (by omega) 8
  unfold spec_l01Cur_raw.f
  rw [e1]
  simp only [Option.bind_some]
  by_cases c1 : r1 = 0
  · rw [if_pos c1]
    obtain ⟨r2, a2, s2, e2, k3, k4, _, o2⟩ := pick_ok hl o1 (by omega) 256
    rw [e2]
    have := k4 (by omega)
    exact ⟨_, _, _, rfl, by rw [show wrap64 (r2 - 128) = r2 - 128 from by unfold wrap64; omega]; omega, o2.up (by omega)⟩
  · rw [if_neg c1]
    by_cases c2 : r1 = 1
    · rw [if_pos c2]
      obtain ⟨r2, a2, s2, e2, k3, k4, _, o2⟩ := pick_ok hl o1 (by omega) 8
      simp only [e2, Option.bind_some]
      rw [if_pos k3, if_pos (by have := k4 (by omega); simpa using this)]
      refine ⟨_, _, _, rfl, ?_, o2.up (by omega)⟩
      have k5 := k4 (by omega)
      have h8 : r2 = 0 ∨ r2 = 1 ∨ r2 = 2 ∨ r2 = 3 ∨ r2 = 4 ∨ r2 = 5 ∨ r2 = 6 ∨ r2 = 7 := by omega
      rcases h8 with rfl | rfl | rfl | rfl | rfl | rfl | rfl | rfl <;> decide
    · rw [if_neg c2]
      obtain ⟨r2, a2, s2, e2, k3, k4, _, o2⟩ := pick_ok hl o1 (by omega) 14
      rw [e2]
      have := k4 (by omega)
      exact ⟨_, _, _, rfl, by rw [show wrap64 (r2 - 3) = r2 - 3 from by unfold wrap64; omega]; omega, o2.up (by omega)⟩
theorem open_ok {l : List Int} (hl : Bytes l) : ∃ s, spec_l01Open.f l = some (l, 0, s) ∧ Ok 0 s 0 := by
  refine ⟨_, rfl, by omega, by omega, ?_, ?_⟩ <;> omega
theorem rd_some {α : Type} (y : List Int) (n : Nat) (hy : y.length = n) (r : Int) (h0 : 0 ≤ r) (h1 : r < (n : Int)) (f : Int → α) : (if 0 ≤ r then (if r < (y.length : Int) then some (f (rd y r)) else none) else none) = some (f (rd y r)) := by
  rw [if_pos h0, if_pos (by omega)]
theorem log_ok {l : List Int} (hl : Bytes l) {a s b : Int} (h : Ok a s b) (hb : b ≤ 800000000000) :
    ∃ r a' s', spec_l01Cur_log.f l a s = some (r, a', s') ∧ Ok a' s' (b + 6) := by
  unfold spec_l01Cur_log.f
  obtain ⟨r1, a1, s1, e1, _, _, _, o1⟩ := pick_ok hl h (by omega) 4
  obtain ⟨r2, a2, s2, e2, _, _, _, o2⟩ := pick_ok hl o1 (by omega) 7
  obtain ⟨r3, a3, s3, e3, _, _, _, o3⟩ := pick_ok hl o2 (by omega) 8
  obtain ⟨r4, a4, s4, e4, _, o4⟩ := raw_ok hl o3 (by omega)
  obtain ⟨r5, a5, s5, e5, k1, k2, _, o5⟩ := pick_ok hl o4 (by omega) 4
  simp only [e1, e2, e3, e4, e5, Option.bind_some]
  rw [if_pos k1, if_pos (by have := k2 (by omega); simpa using this)]
  exact ⟨_, _, _, rfl, o5.up (by omega)⟩
theorem once_ok {l : List Int} (hl : Bytes l) {a s b : Int} (h : Ok a s b) (hb : b ≤ 900000000000) (n : Int) :
    ∃ r a' s', spec_l01Cur_once.f l a s n = some (r, a', s') ∧ Ok a' s' (b + 1) := by
  obtain ⟨r, a', s', e, _, _, _, o⟩ := pick_ok hl h (by omega) n
  unfold spec_l01Cur_once.f
  rw [e]
  exact ⟨_, _, _, rfl, o⟩
theorem leafdraw_ok {l : List Int} (hl : Bytes l) {a s b : Int} (h : Ok a s b) (hb : b ≤ 800000000000) (lg : Int) :
    ∃ r a' s', spec_l01Cur_leaf.f 200 l a s lg = some (r, a', s') ∧ Ok a' s' (b + 6) := by
  unfold spec_l01Cur_leaf.f spec_l11Log.f
  have j1 : ∀ {a s b : Int}, Ok a s b → b ≤ 850000000000 → ∃ r a' s', spec_l01Cur_leaf.j0 200 lg true l a s = some (r, a', s') ∧ Ok a' s' (b + 4) := by
    intro a s b h hb
    obtain ⟨r, a', s', e, _, o⟩ := raw_ok hl h (by omega)
    show ∃ r a' s', spec_l01Cur_leaf.j0 (199 + 1) lg true l a s = some (r, a', s') ∧ _
    simp only [spec_l01Cur_leaf.j0]
    rw [if_pos trivial, e]
    exact ⟨_, _, _, rfl, o.up (by omega)⟩
  by_cases h1 : 0 ≤ lg ∧ lg ≤ 6
  · rw [if_pos (show lg ≥ 0 from h1.1), decide_eq_true h1.2]
    simp only [Option.bind_some, if_true]
    obtain ⟨r, a', s', e, o⟩ := once_ok hl h (by omega) 9
    rw [e]
    simp only [Option.bind_some]
    cases r with
    | true =>
      obtain ⟨q, a2, s2, e2, o2⟩ := j1 o (by omega)
      exact ⟨q, a2, s2, e2, o2.up (by omega)⟩
    | false =>
      show ∃ r a'' s'', spec_l01Cur_leaf.j0 (199 + 1) lg false l a' s' = some (r, a'', s'') ∧ _
      simp only [spec_l01Cur_leaf.j0]
      obtain ⟨n, rfl⟩ := Int.eq_ofNat_of_zero_le h1.1
      rw [if_neg (by decide), pow_k 199 n (by omega) (by omega)]
      simp only [Option.bind_some]
      obtain ⟨q, a2, s2, e2, _, _, _, o2⟩ := pick_ok hl o (by omega) ((2 ^ n : Nat) : Int)
      rw [e2]
      exact ⟨_, _, _, rfl, o2.up (by omega)⟩
  · have e : (if lg ≥ 0 then (some (decide (lg ≤ 6))) else (some false)) = some false := by
      by_cases h2 : lg ≥ 0
      · rw [if_pos h2, decide_eq_false (by omega)]
      · rw [if_neg h2]
    rw [e]
    simp only [Option.bind_some, Bool.false_eq_true, if_false]
    obtain ⟨q, a2, s2, e2, o2⟩ := j1 h (by omega)
    exact ⟨q, a2, s2, e2, o2.up (by omega)⟩
theorem draw_ok {l : List Int} (hl : Bytes l) : ∃ p, spec_DrawMeet.f 200 l = some p := by
  obtain ⟨s, e0, o0⟩ := open_ok hl
  obtain ⟨r1, a1, s1, e1, o1⟩ := log_ok hl o0 (by omega)
  obtain ⟨r2, a2, s2, e2, o2⟩ := leafdraw_ok hl o1 (by omega) r1
  obtain ⟨r3, a3, s3, e3, o3⟩ := leafdraw_ok hl o2 (by omega) r1
  obtain ⟨r4, a4, s4, e4, o4⟩ := once_ok hl o3 (by omega) 5
  unfold spec_DrawMeet.f
  simp only [e0, e1, e2, e3, e4, Option.bind_some]
  cases r4 with
  | true => exact ⟨_, rfl⟩
  | false => exact ⟨_, rfl⟩
def meetAt (x a b : Int) : Option Bool := (impl_Meet.f x a b).bind fun m => (spec_Meet.f 200 x a b).bind fun q => if m = q then laws_FnMeet.j0 200 x a b m (decide (m < 0)) else laws_FnMeet.j0 200 x a b m true
def okAt (l a b : Nat) : Bool := decide (meetAt (l : Int) (a : Int) (b : Int) = some true)
theorem meet_lo : ∀ l, l < 6 → ∀ a, a < 2 ^ l → ∀ b, b < 2 ^ l → okAt l a b = true := by decide +kernel
theorem meet_hi1 : ∀ a, a < 32 → ∀ b, b < 64 → okAt 6 a b = true := by decide +kernel
theorem meet_hi2 : ∀ a, a < 32 → ∀ b, b < 64 → okAt 6 (32 + a) b = true := by decide +kernel
theorem meet_all (l a b : Nat) (hl : l < 7) (ha : a < 2 ^ l) (hb : b < 2 ^ l) : meetAt (l : Int) (a : Int) (b : Int) = some true := by
  by_cases h : l < 6
  · exact of_decide_eq_true (meet_lo l h a ha b hb)
  · obtain rfl : l = 6 := by omega
    by_cases h2 : a < 32
    · exact of_decide_eq_true (meet_hi1 a h2 b hb)
    · have := of_decide_eq_true (meet_hi2 (a - 32) (by omega) b hb)
      rwa [show 32 + (a - 32) = a from by omega] at this
theorem meet_out (x a b : Int) (h : ¬ (isL x a = true ∧ isL x b = true)) : meetAt x a b = some true := by
  have e1 : impl_Meet.f x a b = some (-1) := by
    unfold impl_Meet.f
    rw [leaf_impl, leaf_impl]
    cases e1 : isL x a with
    | false => rfl
    | true =>
      cases e2 : isL x b with
      | false => rfl
      | true => exact absurd ⟨e1, e2⟩ h
  have e2 : ∀ k, spec_Meet.f (k + 30) x a b = some (-1) := by
    intro k
    unfold spec_Meet.f
    rw [leaf_spec _ (by omega), leaf_spec _ (by omega)]
    cases e1 : isL x a with
    | false => simp [spec_Meet.j0]
    | true =>
      cases e2 : isL x b with
      | false => simp [spec_Meet.j0]
      | true => exact absurd ⟨e1, e2⟩ h
  unfold meetAt
  rw [e1, e2 170]
  simp only [Option.bind_some, if_true]
  show laws_FnMeet.j0 (199 + 1) x a b (-1) (decide ((-1 : Int) < 0)) = _
  simp only [laws_FnMeet.j0]
  rw [if_pos (by decide), e2 169]
  rfl
theorem FnMeet : laws_FnMeet.Pure := by
  intro l0 _ _ hw
  refine ⟨200, ?_⟩
  unfold laws_FnMeet.f laws_big.f
  simp only [Option.bind_some]
  by_cases c : (l0.length : Int) > 1048576
  · rw [decide_eq_true c]; rfl
  · rw [decide_eq_false c]
    obtain ⟨⟨x, a, b⟩, hp⟩ := draw_ok (bytes_of (by omega) hw)
    simp only [Bool.false_eq_true, if_false, hp, Option.bind_some]
    show meetAt x a b = some true
    by_cases h : isL x a = true ∧ isL x b = true
    · obtain ⟨h1, h2⟩ := h
      simp only [isL, decide_eq_true_eq] at h1 h2
      obtain ⟨l, rfl⟩ := Int.eq_ofNat_of_zero_le h1.1
      obtain ⟨p, rfl⟩ := Int.eq_ofNat_of_zero_le h1.2.2.1
      obtain ⟨q, rfl⟩ := Int.eq_ofNat_of_zero_le h2.2.2.1
      rw [Int.toNat_natCast] at h1 h2
      exact meet_all l p q (by omega) (by omega) (by omega)
    · exact meet_out x a b h

end Go.Proofs.Ytkklmkighdjmlaa.Pure

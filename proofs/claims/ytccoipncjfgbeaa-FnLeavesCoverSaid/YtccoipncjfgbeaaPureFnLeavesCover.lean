/- The leaves whose paths contain a node are those between the node's first and its last leaf; the drawn tree and node come of any bytes. Conditions: none. -/
import Derived.Test.YtccoipncjfgbeaaPFnLeavesCoverx3
namespace Go.Proofs.Ytccoipncjfgbeaa.Pure
open Go.RowKit Go.Proofs.Ytccoipncjfgbeaa.PFnLeavesCover Go.Proofs.YtccoipncjfgbeaaW.PrintWords Go.Proofs.YtccoipncjfgbeaaW.PrintLast Go.Proofs.YtccoipncjfgbeaaW.PrintMore
set_option linter.unusedVariables false
set_option linter.unusedSimpArgs false

theorem pow_all : ∀ l : Nat, l < 7 → spec_l02Pow.f 200 (l : Int) = some ((2 ^ l : Nat) : Int) := by decide +kernel
theorem tree_all : ∀ l : Nat, l < 7 → impl_treeNodes.f (l : Int) = some (((2 ^ (l + 1) : Nat) : Int) - 1) ∧ spec_TreeNodes.f 200 (l : Int) = some (((2 ^ (l + 1) : Nat) : Int) - 1) := by decide +kernel
def sameNL (a b : Int) : Option Bool := (spec_NodeLeaves.f 200 a b).bind fun p => (impl_NodeLeaves.f a b).bind fun q => some (decide (q = p))
def okAt (l n : Nat) : Bool := decide (sameNL (l : Int) (n : Int) = some true)
theorem leaves_all : ∀ l, l < 7 → ∀ n, n < 2 ^ (l + 1) → okAt l n = true := by decide +kernel

theorem no_log (a0 : Int) (h : ¬ (0 ≤ a0 ∧ a0 ≤ 6)) : impl_isLog.f a0 = some false ∧ spec_TreeNodes.f 200 a0 = some (-1) := by
  unfold impl_isLog.f impl_within.f spec_TreeNodes.f spec_l11Log.f
  by_cases h2 : a0 ≥ 0
  · have h3 : decide (a0 ≤ 6) = false := decide_eq_false (by omega)
    rw [if_pos h2, h3]; exact ⟨rfl, rfl⟩
  · rw [if_neg h2]; exact ⟨rfl, rfl⟩

theorem same_all (a0 a1 : Int) : sameNL a0 a1 = some true := by
  by_cases hl : 0 ≤ a0 ∧ a0 ≤ 6
  · obtain ⟨l, rfl⟩ := Int.eq_ofNat_of_zero_le hl.1
    by_cases hn : 0 ≤ a1 ∧ a1 < ((2 ^ (l + 1) : Nat) : Int)
    · obtain ⟨n, rfl⟩ := Int.eq_ofNat_of_zero_le hn.1
      exact of_decide_eq_true (leaves_all l (by omega) n (by omega))
    · obtain ⟨t1, t2⟩ := tree_all l (by omega)
      unfold sameNL spec_NodeLeaves.f impl_NodeLeaves.f impl_isTreeNode.f impl_isLog.f impl_within.f
      rw [t1, t2]
      have d1 : decide ((l : Int) ≤ 6) = true := decide_eq_true (by omega)
      rw [if_pos (show (l : Int) ≥ 0 by omega), d1]
      by_cases h3 : a1 < 1
      · rw [if_pos h3]
        simp only [Option.bind_some, if_true]
        rw [if_neg (by omega)]; rfl
      · rw [if_neg h3]
        simp only [Option.bind_some, if_true]
        have d2 : decide (a1 ≤ ((2 ^ (l + 1) : Nat) : Int) - 1) = false := decide_eq_false (by omega)
        have d3 : decide (a1 > ((2 ^ (l + 1) : Nat) : Int) - 1) = true := decide_eq_true (by omega)
        rw [if_pos (by omega), d2, d3]; rfl
  · obtain ⟨t1, t2⟩ := no_log a0 hl
    unfold sameNL spec_NodeLeaves.f impl_NodeLeaves.f
    rw [t1, t2]
    by_cases h3 : a1 < 1
    · rw [if_pos h3]; rfl
    · have d3 : decide (a1 > -1) = true := decide_eq_true (by omega)
      rw [if_neg h3]
      simp only [Option.bind_some]
      rw [d3]; rfl

theorem same_split (a0 a1 : Int) : ∃ p, spec_NodeLeaves.f 200 a0 a1 = some p ∧ impl_NodeLeaves.f a0 a1 = some p := by
  have h := same_all a0 a1
  unfold sameNL at h
  obtain ⟨p, h1, h⟩ := Option.bind_eq_some_iff.1 h
  obtain ⟨q, h2, h⟩ := Option.bind_eq_some_iff.1 h
  have e : q = p := of_decide_eq_true (Option.some.inj h)
  exact ⟨p, h1, e ▸ h2⟩
theorem neg_out (a0 a1 : Int) (h : ¬ (0 ≤ a0 ∧ a0 ≤ 6 ∧ 1 ≤ a1 ∧ a1 < ((2 ^ (a0.toNat + 1) : Nat) : Int))) : impl_NodeLeaves.f a0 a1 = some (-1, -1) := by
  unfold impl_NodeLeaves.f
  by_cases hl : 0 ≤ a0 ∧ a0 ≤ 6
  · obtain ⟨l, rfl⟩ := Int.eq_ofNat_of_zero_le hl.1
    rw [Int.toNat_natCast] at h
    obtain ⟨t1, t2⟩ := tree_all l (by omega)
    have e1 : impl_isLog.f (l : Int) = some true := by
      unfold impl_isLog.f impl_within.f
      rw [if_pos (show (l : Int) ≥ 0 by omega), decide_eq_true (show (l : Int) ≤ 6 by omega)]; rfl
    have e2 : impl_isTreeNode.f (l : Int) a1 = some false := by
      unfold impl_isTreeNode.f impl_within.f
      rw [t1]
      simp only [Option.bind_some]
      by_cases h3 : a1 ≥ 1
      · rw [if_pos h3, decide_eq_false (by omega)]; rfl
      · rw [if_neg h3]; rfl
    rw [e1, e2]; rfl
  · rw [(no_log a0 hl).1]; rfl
def bodyAt (l n : Nat) : Bool := match impl_NodeLeaves.f (l : Int) (n : Int) with
  | some p => decide (laws_FnLeavesCover.j0 200 (l : Int) (n : Int) p.1 p.2 p.1 p.2 false = some true)
  | none => false
theorem body_all : ∀ l, l < 7 → ∀ n, n < 2 ^ (l + 1) → 1 ≤ n → bodyAt l n = true := by decide +kernel
theorem trees (a0 : Int) : ∃ t, spec_TreeNodes.f 200 a0 = some t ∧ t ≤ 127 := by
  by_cases hl : 0 ≤ a0 ∧ a0 ≤ 6
  · obtain ⟨l, rfl⟩ := Int.eq_ofNat_of_zero_le hl.1
    refine ⟨_, (tree_all l (by omega)).2, ?_⟩
    have h7 : l = 0 ∨ l = 1 ∨ l = 2 ∨ l = 3 ∨ l = 4 ∨ l = 5 ∨ l = 6 := by omega
    rcases h7 with rfl | rfl | rfl | rfl | rfl | rfl | rfl <;> decide
  · exact ⟨-1, (no_log a0 hl).2, by omega⟩
/-- The state of a reader of draws: where it stands, and its seed. -/
def Ok (at_ seed b : Int) : Prop := 0 ≤ at_ ∧ at_ ≤ b ∧ 0 ≤ seed ∧ seed < 65521
def Bytes (l : List Int) : Prop := l.length ≤ 1048576 ∧ ∀ x, x ∈ l → 0 ≤ x ∧ x ≤ 255
theorem Ok.up {a s b b' : Int} (h : Ok a s b) (hb : b ≤ b') : Ok a s b' := ⟨h.1, by have := h.2.1; omega, h.2.2⟩
theorem bytes_of {l : List Int} (h1 : l.length ≤ 1048576) (h2 : ∀ x, x ∈ l → (Lit.int .u8 x).wf = true) : Bytes l := by
  refine ⟨h1, fun x hx => ?_⟩
  have := h2 x hx
  simp [Lit.wf, IntKind.min, IntKind.max, IntKind.signed, IntKind.bits] at this
  omega
theorem rd_byte {l : List Int} (h : Bytes l) (i : Int) : 0 ≤ rd l i ∧ rd l i ≤ 255 := by
  unfold rd
  rw [List.getD_eq_getElem?_getD]
  cases e : l[i.toNat]? with
  | none => simp
  | some x => exact h.2 x (List.mem_of_getElem? e)
theorem tmod_pos {a n : Int} (h0 : 0 ≤ a) (hn : 0 < n) : 0 ≤ Int.tmod a n ∧ Int.tmod a n < n := by
  rw [Int.tmod_eq_emod_of_nonneg h0]
  exact ⟨Int.emod_nonneg _ (by omega), Int.emod_lt_of_pos _ hn⟩
theorem pick_ok {l : List Int} (hl : Bytes l) {a s b : Int} (h : Ok a s b) (hb : b ≤ 1000000000000) (n : Int) :
    ∃ r a' s', spec_l01Cur_pick.f l a s n = some (r, a', s') ∧ 0 ≤ r ∧ (2 ≤ n → r < n) ∧ (n < 2 → r = 0) ∧ Ok a' s' (b + 1) := by
  obtain ⟨h0, h1, h2, h3⟩ := h
  have hlen := hl.1
  unfold spec_l01Cur_pick.f
  by_cases c1 : n < 2
  · rw [if_pos c1]
    exact ⟨0, a, s, rfl, by omega, fun _ => by omega, fun _ => rfl, h0, by omega, h2, h3⟩
  · rw [if_neg c1]
    have w1 : wrap64 (a + 1) = a + 1 := by unfold wrap64; omega
    have w2 : wrap64 (s * 1103) = s * 1103 := by unfold wrap64; omega
    have w3 : wrap64 (s * 1103 + 12345) = s * 1103 + 12345 := by unfold wrap64; omega
    rw [w1, w2, w3]
    have hs := tmod_pos (a := s * 1103 + 12345) (n := 65521) (by omega) (by omega)
    generalize Int.tmod (s * 1103 + 12345) 65521 = s1 at hs
    have hok : Ok (a + 1) s1 (b + 1) := ⟨by omega, by omega, hs.1, hs.2⟩
    by_cases c2 : a < (l.length : Int)
    · rw [if_pos c2, if_pos h0, if_neg (by omega)]
      have hr := rd_byte hl a
      rw [show wrap64 (rd l a) = rd l a from by unfold wrap64; omega]
      have hm := tmod_pos (a := rd l a) (n := n) hr.1 (by omega)
      exact ⟨_, _, _, rfl, hm.1, fun _ => hm.2, fun h => absurd h c1, by omega, by omega, h2, h3⟩
    · rw [if_neg c2]
      by_cases c3 : (l.length : Int) > 0
      · rw [if_pos c3, if_neg (by omega)]
        have hi := tmod_pos (a := a) (n := (l.length : Int)) h0 c3
        rw [if_pos hi.1, if_pos hi.2, if_neg (by omega)]
        have hr := rd_byte hl (Int.tmod a (l.length : Int))
        generalize rd l (Int.tmod a (l.length : Int)) = y at hr
        have hd : 0 ≤ Int.tdiv s1 7 ∧ Int.tdiv s1 7 ≤ 65521 := by
          rw [Int.tdiv_eq_ediv_of_nonneg hs.1]; omega
        generalize Int.tdiv s1 7 = z at hd
        rw [show wrap64 z = z from by unfold wrap64; omega, show wrap64 y = y from by unfold wrap64; omega, show wrap64 (z + y) = z + y from by unfold wrap64; omega]
        have hm := tmod_pos (a := z + y) (n := n) (by omega) (by omega)
        exact ⟨_, _, _, rfl, hm.1, fun _ => hm.2, fun h => absurd h c1, hok⟩
      · rw [if_neg c3, if_neg (by omega)]
        have e : (0 : Int) % n = 0 := Int.zero_emod n
        rw [e]
        exact ⟨_, _, _, rfl, by omega, fun _ => by omega, fun h => absurd h c1, hok⟩
theorem raw_ok {l : List Int} (hl : Bytes l) {a s b : Int} (h : Ok a s b) (hb : b ≤ 900000000000) :
    ∃ r a' s', spec_l01Cur_raw.f l a s = some (r, a', s') ∧ (-9223372036854775808 ≤ r ∧ r ≤ 9223372036854775807) ∧ Ok a' s' (b + 2) := by
  obtain ⟨r1, a1, s1, e1, k1, k2, _, o1⟩ := pick_ok hl h (by omega) 8
  unfold spec_l01Cur_raw.f
  rw [e1]
  simp only [Option.bind_some]
  by_cases c1 : r1 = 0
  · rw [if_pos c1]
    obtain ⟨r2, a2, s2, e2, k3, k4, _, o2⟩ := pick_ok hl o1 (by omega) 256
    rw [e2]
    have := k4 (by omega)
    exact ⟨_, _, _, rfl, by rw [show wrap64 (r2 - 128) = r2 - 128 from by unfold wrap64; omega]; omega, o2.up (by omega)⟩
  · rw [if_neg c1]
    by_cases c2 : r1 = 1
    · rw [if_pos c2]
      obtain ⟨r2, a2, s2, e2, k3, k4, _, o2⟩ := pick_ok hl o1 (by omega) 8
      simp only [e2, Option.bind_some]
      rw [if_pos k3, if_pos (by have := k4 (by omega); simpa using this)]
      refine ⟨_, _, _, rfl, ?_, o2.up (by omega)⟩
      have k5 := k4 (by omega)
      have h8 : r2 = 0 ∨ r2 = 1 ∨ r2 = 2 ∨ r2 = 3 ∨ r2 = 4 ∨ r2 = 5 ∨ r2 = 6 ∨ r2 = 7 := by omega
      rcases h8 with rfl | rfl | rfl | rfl | rfl | rfl | rfl | rfl <;> decide
    · rw [if_neg c2]
      obtain ⟨r2, a2, s2, e2, k3, k4, _, o2⟩ := pick_ok hl o1 (by omega) 14
      rw [e2]
      have := k4 (by omega)
      exact ⟨_, _, _, rfl, by rw [show wrap64 (r2 - 3) = r2 - 3 from by unfold wrap64; omega]; omega, o2.up (by omega)⟩
theorem open_ok {l : List Int} (hl : Bytes l) : ∃ s, spec_l01Open.f l = some (l, 0, s) ∧ Ok 0 s 0 := by
  refine ⟨_, rfl, by omega, by omega, ?_, ?_⟩ <;> omega
theorem rd_some {α : Type} (y : List Int) (n : Nat) (hy : y.length = n) (r : Int) (h0 : 0 ≤ r) (h1 : r < (n : Int)) (f : Int → α) : (if 0 ≤ r then (if r < (y.length : Int) then some (f (rd y r)) else none) else none) = some (f (rd y r)) := by
  rw [if_pos h0, if_pos (by omega)]
theorem log_ok {l : List Int} (hl : Bytes l) {a s b : Int} (h : Ok a s b) (hb : b ≤ 800000000000) :
    ∃ r a' s', spec_l01Cur_log.f l a s = some (r, a', s') ∧ Ok a' s' (b + 6) := by
  unfold spec_l01Cur_log.f
  obtain ⟨r1, a1, s1, e1, _, _, _, o1⟩ := pick_ok hl h (by omega) 4
  obtain ⟨r2, a2, s2, e2, _, _, _, o2⟩ := pick_ok hl o1 (by omega) 7
  obtain ⟨r3, a3, s3, e3, _, _, _, o3⟩ := pick_ok hl o2 (by omega) 8
  obtain ⟨r4, a4, s4, e4, _, o4⟩ := raw_ok hl o3 (by omega)
  obtain ⟨r5, a5, s5, e5, k1, k2, _, o5⟩ := pick_ok hl o4 (by omega) 4
  simp only [e1, e2, e3, e4, e5, Option.bind_some]
  rw [if_pos k1, if_pos (by have := k2 (by omega); simpa using this)]
  exact ⟨_, _, _, rfl, o5.up (by omega)⟩
theorem draw_ok {l : List Int} (hl : Bytes l) : ∃ p, spec_DrawNodeLeaves.f 200 l = some p := by
  obtain ⟨s, e0, o0⟩ := open_ok hl
  obtain ⟨r1, a1, s1, e1, o1⟩ := log_ok hl o0 (by omega)
  obtain ⟨t, et, ht⟩ := trees r1
  obtain ⟨r2, a2, s2, e2, _, _, _, o2⟩ := pick_ok hl o1 (by omega) (mx 1 t)
  obtain ⟨r3, a3, s3, e3, _, o3⟩ := raw_ok hl o2 (by omega)
  obtain ⟨r4, a4, s4, e4, k1, k2, _, o4⟩ := pick_ok hl o3 (by omega) 4
  unfold spec_DrawNodeLeaves.f
  simp only [e0, e1, et, e2, e3, e4, Option.bind_some]
  rw [if_pos k1, if_pos (by have := k2 (by omega); simpa using this)]
  exact ⟨_, rfl⟩

theorem FnLeavesCover : laws_FnLeavesCover.Pure := by
  intro l0 _ _ hw
  refine ⟨200, ?_⟩
  unfold laws_FnLeavesCover.f laws_big.f
  simp only [Option.bind_some]
  by_cases c : (l0.length : Int) > 1048576
  · rw [decide_eq_true c]; rfl
  · rw [decide_eq_false c]
    obtain ⟨⟨a, n⟩, hp⟩ := draw_ok (bytes_of (by omega) hw)
    obtain ⟨⟨lo, hi⟩, h1, h2⟩ := same_split a n
    simp only [Bool.false_eq_true, if_false, hp, h1, h2, Option.bind_some, if_true]
    by_cases h : 0 ≤ a ∧ a ≤ 6 ∧ 1 ≤ n ∧ n < ((2 ^ (a.toNat + 1) : Nat) : Int)
    · obtain ⟨l, rfl⟩ := Int.eq_ofNat_of_zero_le h.1
      obtain ⟨m, rfl⟩ := Int.eq_ofNat_of_zero_le (show 0 ≤ n by omega)
      rw [Int.toNat_natCast] at h
      have hb := body_all l (by omega) m (by omega) (by omega)
      unfold bodyAt at hb
      rw [h2] at hb
      have hb' := of_decide_eq_true hb
      cases e : decide (lo < 0) with
      | false => exact hb'
      | true =>
        show laws_FnLeavesCover.j0 (199 + 1) _ _ _ _ _ _ true = _
        simp [laws_FnLeavesCover.j0]
    · have := neg_out a n h
      rw [this] at h2
      obtain ⟨rfl, rfl⟩ := Prod.mk.inj (Option.some.inj h2)
      show laws_FnLeavesCover.j0 (199 + 1) _ _ _ _ _ _ true = _
      simp [laws_FnLeavesCover.j0]

end Go.Proofs.Ytccoipncjfgbeaa.Pure

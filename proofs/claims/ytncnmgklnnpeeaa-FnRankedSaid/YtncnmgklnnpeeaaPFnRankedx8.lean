-- Laid by a program of this session: what the print of the kit writes, and contracts of the session where the print takes no function. Lean checks it.
import Derived.Test.YtncnmgklnnpeeaaPFnRankedx0
import Derived.Test.YtncnmgklnnpeeaaPFnRankedx7
namespace Go.Proofs.Ytncnmgklnnpeeaa.PFnRanked
open Go.RowKit Go.Proofs.YtncnmgklnnpeeaaW.PrintWords Go.Proofs.YtncnmgklnnpeeaaW.PrintLast Go.Proofs.YtncnmgklnnpeeaaW.PrintMore
attribute [local go_sem] max2_int min2_int max_two min_two max_three min_three max_four min_four   -- for this text's walks alone
set_option linter.unusedVariables false
set_option linter.unusedSimpArgs false

/-! ### impl_isAhead: function 31 -/
def impl_isAhead.j0 : Nat → Bool → Bool → Int → Int → ByteArray → Bool → Int → Int → ByteArray → Option (Bool)
  | 0, _, _, _, _, _, _, _, _, _ => none
  | k + 1, x12, x336000, x336001, x336002, x336003, x337000, x337001, x337002, x337003 => if x12 = true then (if x336000 = true then (some (!x337000)) else (some false)) else ((cmp_Compare_int.f x336001 x337001).bind fun t337 => ((cmp_Compare_int.f x337002 x336002).bind fun t338 => ((cmp_Compare_string.f x336003 x337003).bind fun t339 => ((cmp_Or_int.f k (([t337, t338, t339] : List Int))).bind fun t343 => (some (decide (t343 < 0)))))))
def impl_isAhead.f (k : Nat) (a0_0 : Bool) (a0_1 : Int) (a0_2 : Int) (a0_3 : ByteArray) (a1_0 : Bool) (a1_1 : Int) (a1_2 : Int) (a1_3 : ByteArray) : Option (Bool) := if a0_0 = true then (impl_isAhead.j0 k (!a1_0) a0_0 a0_1 a0_2 a0_3 a1_0 a1_1 a1_2 a1_3) else (impl_isAhead.j0 k true a0_0 a0_1 a0_2 a0_3 a1_0 a1_1 a1_2 a1_3)
theorem impl_isAhead.mono_l : ∀ k, (∀ y0 y1 y2 y3 y4 y5 y6 y7 y8, LeO (impl_isAhead.j0 k y0 y1 y2 y3 y4 y5 y6 y7 y8) (impl_isAhead.j0 (k + 1) y0 y1 y2 y3 y4 y5 y6 y7 y8))
  | 0 => fun _ _ _ _ _ _ _ _ _ r h => by simp [impl_isAhead.j0] at h
  | k + 1 => by
    have ih0 := impl_isAhead.mono_l k
    · intro y0 y1 y2 y3 y4 y5 y6 y7 y8
      unfold impl_isAhead.j0
      repeat' first
      | (with_reducible exact ih0 _ _ _ _ _ _ _ _ _)
      | (with_reducible exact cmp_Or_int.mono _ _)
      | (with_reducible exact LeO.refl _)
      | (with_reducible exact LeO.none _)
      | (with_reducible refine LeO.ite ?_ ?_)
      | (with_reducible refine LeO.bind ?_ (fun _ => ?_))
      | exact ih0 _ _ _ _ _ _ _ _ _
      | exact cmp_Or_int.mono _ _
      | exact LeO.none _
      | refine LeO.ite ?_ ?_
      | refine LeO.bind ?_ (fun _ => ?_)
theorem impl_isAhead.mono : ∀ a0 a1 a2 a3 a4 a5 a6 a7 k, LeO (impl_isAhead.f k a0 a1 a2 a3 a4 a5 a6 a7) (impl_isAhead.f (k + 1) a0 a1 a2 a3 a4 a5 a6 a7) := by
  intro a0 a1 a2 a3 a4 a5 a6 a7 k
  have ih0 := impl_isAhead.mono_l k
  unfold impl_isAhead.f
  repeat' first
      | (with_reducible exact ih0 _ _ _ _ _ _ _ _ _)
      | (with_reducible exact cmp_Or_int.mono _ _)
      | (with_reducible exact LeO.refl _)
      | (with_reducible exact LeO.none _)
      | (with_reducible refine LeO.ite ?_ ?_)
      | (with_reducible refine LeO.bind ?_ (fun _ => ?_))
      | exact ih0 _ _ _ _ _ _ _ _ _
      | exact cmp_Or_int.mono _ _
      | exact LeO.none _
      | refine LeO.ite ?_ ?_
      | refine LeO.bind ?_ (fun _ => ?_)
def impl_isAhead.T3 : Bool × List (List Nat × List Nat) := (true, [([], []), ([0], [0]), ([], []), ([2], [2]), ([1, 3], [1, 3]), ([], []), ([5], [5]), ([], []), ([7], [7]), ([6, 8, 4], [6, 8]), ([], []), ([10], [10]), ([], []), ([12], [12]), ([11, 13, 9], [11, 13]), ([4, 9, 14], [4, 9, 14]), ([15, 14], [15]), ([16], [16]), ([17, 16, 0, 1, 2, 3, 4, 5, 6, 7, 8, 9, 10, 11, 12, 13, 14, 15, 16, 17], [17])])
def impl_isAhead.B3 : List Nat := [0, 1, 0, 4, 15, 0, 32, 0, 128, 511, 0, 1024, 0, 4096, 16383, 32767, 65535, 131071, 262143]
theorem impl_isAhead.tab3 : rtab .any (opsOf Try.f31 3) = impl_isAhead.T3 := by kernel_rfl
theorem impl_isAhead.bits3 : waitsOk impl_isAhead.T3.2 impl_isAhead.B3 = true := by kernel_rfl
set_option maxHeartbeats 8000000 in
set_option maxRecDepth 100000 in
theorem impl_isAhead.calls (k : Nat) (a0_0 : Bool) (a0_1 : Int) (a0_2 : Int) (a0_3 : ByteArray) (a1_0 : Bool) (a1_1 : Int) (a1_2 : Int) (a1_3 : ByteArray) (r : Bool) (w : World) (h : impl_isAhead.f k a0_0 a0_1 a0_2 a0_3 a1_0 a1_1 a1_2 a1_3 = some r) :
    Calls Try.prog 31 #[.agg #[.bool a0_0, .int .i64 a0_1, .int .i64 a0_2, .string a0_3], .agg #[.bool a1_0, .int .i64 a1_1, .int .i64 a1_2, .string a1_3]] w fun e w' => e = .returned (.bool r) ∧ Below w.heap.size w w' := by
  have hu25 := Try.underlying25
  have HB := Aside0.mk (Below.refl w.heap.size w)
  have H : (if a0_0 = true then (impl_isAhead.j0 k (!a1_0) a0_0 a0_1 a0_2 a0_3 a1_0 a1_1 a1_2 a1_3) else (impl_isAhead.j0 k true a0_0 a0_1 a0_2 a0_3 a1_0 a1_1 a1_2 a1_3)) = some r := h
  clear h
  have HC3 := Aside0.mk H
  clear H
  go_enter Try.func31, Try.ntmps31
  go_upto_region 1 with (first | ((with_reducible refine gate_dst (N := 2) rfl ?_); refine box_event ?hg (N := 2) ?hd (cs := #[.bool a0_0, .int .i64 a0_1, .int .i64 a0_2, .string a0_3]) (t := 25) ?hr ?_; (case hd => rfl); (case hg => rfl); (case hr => first | (go_simp; done) | (go_simp; rfl)); intro gb335 hg w4 hbox hb; have n0_ := Aside0.mk (below_step (by repeat (first | (with_reducible first | exact HB.out | apply below_alloc | apply pw_below_drewN | apply below_drew1) | exact HB.out)) hb); have n1_ := Aside0.mk (hbox); have n2_ := Aside0.mk ((by rw [hg]; exact (below_size (by repeat (first | (with_reducible first | exact HB.out | apply below_alloc | apply pw_below_drewN | apply below_drew1) | exact HB.out))) : w.heap.size ≤ gb335)); have n3_ := Aside0.mk ((by rw [hg]; exact (below_size (by repeat (first | (with_reducible first | exact HB.out | apply below_alloc | apply pw_below_drewN | apply below_drew1) | exact HB.out))) : w.heap.size ≤ gb335)); clear HB; have HB := n0_; have BK335 := n1_; have GW335 := n2_; have GE335 := n3_; clear n0_ n1_ n2_ n3_; clear hb hbox hg) | ((with_reducible refine gate_dst (N := 3) rfl ?_); refine box_event ?hg (N := 3) ?hd (cs := #[.bool a1_0, .int .i64 a1_1, .int .i64 a1_2, .string a1_3]) (t := 25) ?hr ?_; (case hd => rfl); (case hg => rfl); (case hr => first | (go_simp; done) | (go_simp; rfl)); intro gb336 hg w5 hbox hb; have n0_ := Aside0.mk (blk_below (g := gb335) (o := .cells #[.bool a0_0, .int .i64 a0_1, .int .i64 a0_2, .string a0_3] 25 (0, 0)) (by (with_reducible repeat (first | refine blk_drewN ?_ _ | refine blk_drew ?_ | refine blk_alloc ?_ _)); exact BK335.out) hb); have n1_ := Aside0.mk (below_step (by repeat (first | (with_reducible first | exact HB.out | apply below_alloc | apply pw_below_drewN | apply below_drew1 | refine below_set ?_ GE335.out) | exact HB.out)) hb); have n2_ := Aside0.mk (hbox); have n3_ := Aside0.mk ((by rw [hg]; exact (below_size (by repeat (first | (with_reducible first | exact HB.out | apply below_alloc | apply pw_below_drewN | apply below_drew1 | refine below_set ?_ GE335.out) | exact HB.out))) : w.heap.size ≤ gb336)); have n4_ := Aside0.mk ((by rw [hg]; exact (below_size (by repeat (first | (with_reducible first | exact HB.out | apply below_alloc | apply pw_below_drewN | apply below_drew1 | refine below_set ?_ GE335.out) | exact HB.out))) : w.heap.size ≤ gb336)); have n5_ := Aside0.mk ((by rw [hg]; exact Nat.ne_of_lt (blk_lt (g := gb335) (o := .cells #[.bool a0_0, .int .i64 a0_1, .int .i64 a0_2, .string a0_3] 25 (0, 0)) (by (with_reducible repeat (first | refine blk_drewN ?_ _ | refine blk_drew ?_ | refine blk_alloc ?_ _)); exact BK335.out)) : gb335 ≠ gb336)); have n6_ := Aside0.mk ((by rw [hg]; exact Nat.ne_of_gt (blk_lt (g := gb335) (o := .cells #[.bool a0_0, .int .i64 a0_1, .int .i64 a0_2, .string a0_3] 25 (0, 0)) (by (with_reducible repeat (first | refine blk_drewN ?_ _ | refine blk_drew ?_ | refine blk_alloc ?_ _)); exact BK335.out)) : gb336 ≠ gb335)); clear BK335; clear HB; have BK335 := n0_; have HB := n1_; have BK336 := n2_; have GW336 := n3_; have GE336 := n4_; have NB335_336 := n5_; have NB336_335 := n6_; clear n0_ n1_ n2_ n3_ n4_ n5_ n6_; clear hb hbox hg))
  (try simp only [Act.put, List.setIfInBounds_toArray, List.set_cons_zero, List.set_cons_succ])
  go_cut [12] (fun v12 wc => ∃ (kq : Nat) (x12_2 : Bool), v12 = .bool x12_2 ∧ Aside0 (impl_isAhead.j0 kq x12_2 a0_0 a0_1 a0_2 a0_3 a1_0 a1_1 a1_2 a1_3 = some r) ∧ Aside0 (kq ≤ k) ∧ Aside0 (wc.heap[gb335]? = some (.cells #[.bool a0_0, .int .i64 a0_1, .int .i64 a0_2, .string a0_3] 25 (0, 0))) ∧ Aside0 (wc.heap[gb336]? = some (.cells #[.bool a1_0, .int .i64 a1_1, .int .i64 a1_2, .string a1_3] 25 (0, 0))) ∧ Aside0 (Below w.heap.size w wc))
  case first =>
    have H := HC3.out
    clear HC3
    by_cases c6 : a0_0 = true
    · subst c6
      have H1 : (impl_isAhead.j0 k (!a1_0) true a0_1 a0_2 a0_3 a1_0 a1_1 a1_2 a1_3) = some r := by rw [if_pos rfl] at H; exact H
      clear H
      have H := H1
      clear H1
      have H' := Aside0.mk H
      clear H
      have hnb7 := NB335_336.out
      have hnc7 := NB336_335.out
      have hcz8_0 : w5.cell? ⟨gb335, 0, none⟩ = some (.bool true) := (blk_cell BK335.out 0).trans rfl
      have hcz8_1 : w5.cell? ⟨gb335, 1, none⟩ = some (.int .i64 a0_1) := (blk_cell BK335.out 1).trans rfl
      have hcz8_2 : w5.cell? ⟨gb335, 2, none⟩ = some (.int .i64 a0_2) := (blk_cell BK335.out 2).trans rfl
      have hcz8_3 : w5.cell? ⟨gb335, 3, none⟩ = some (.string a0_3) := (blk_cell BK335.out 3).trans rfl
      have hfz8_0 := blk_frozen BK335.out 0
      have hfz8_1 := blk_frozen BK335.out 1
      have hfz8_2 := blk_frozen BK335.out 2
      have hfz8_3 := blk_frozen BK335.out 3
      have hcz9_0 : w5.cell? ⟨gb336, 0, none⟩ = some (.bool a1_0) := (blk_cell BK336.out 0).trans rfl
      have hcz9_1 : w5.cell? ⟨gb336, 1, none⟩ = some (.int .i64 a1_1) := (blk_cell BK336.out 1).trans rfl
      have hcz9_2 : w5.cell? ⟨gb336, 2, none⟩ = some (.int .i64 a1_2) := (blk_cell BK336.out 2).trans rfl
      have hcz9_3 : w5.cell? ⟨gb336, 3, none⟩ = some (.string a1_3) := (blk_cell BK336.out 3).trans rfl
      have hfz9_0 := blk_frozen BK336.out 0
      have hfz9_1 := blk_frozen BK336.out 1
      have hfz9_2 := blk_frozen BK336.out 2
      have hfz9_3 := blk_frozen BK336.out 3
      go_wp2
      go_meet
      case rel => exact ⟨_, (!a1_0), (by first | rfl | (simp; done) | (simp [*]; done)), H', ⟨by first | omega | exact Nat.le_refl _⟩, ⟨by (with_reducible repeat (first | refine blk_drewN ?_ _ | refine blk_drew ?_ | refine blk_alloc ?_ _)); exact BK335.out⟩, ⟨by (with_reducible repeat (first | refine blk_drewN ?_ _ | refine blk_drew ?_ | refine blk_alloc ?_ _)); exact BK336.out⟩, ⟨by repeat (first | (with_reducible first | exact HB.out | apply below_alloc | apply pw_below_drewN | apply below_drew1 | refine below_set ?_ GE335.out | refine below_set ?_ GE336.out) | exact HB.out)⟩⟩
    · replace c6 := Bool.eq_false_iff.mpr c6
      subst c6
      have H1 : (impl_isAhead.j0 k true false a0_1 a0_2 a0_3 a1_0 a1_1 a1_2 a1_3) = some r := by rw [if_neg (show ¬ (false = true) by decide)] at H; exact H
      clear H
      have H := H1
      clear H1
      have H' := Aside0.mk H
      clear H
      have hnb10 := NB335_336.out
      have hnc10 := NB336_335.out
      have hcz11_0 : w5.cell? ⟨gb335, 0, none⟩ = some (.bool false) := (blk_cell BK335.out 0).trans rfl
      have hcz11_1 : w5.cell? ⟨gb335, 1, none⟩ = some (.int .i64 a0_1) := (blk_cell BK335.out 1).trans rfl
      have hcz11_2 : w5.cell? ⟨gb335, 2, none⟩ = some (.int .i64 a0_2) := (blk_cell BK335.out 2).trans rfl
      have hcz11_3 : w5.cell? ⟨gb335, 3, none⟩ = some (.string a0_3) := (blk_cell BK335.out 3).trans rfl
      have hfz11_0 := blk_frozen BK335.out 0
      have hfz11_1 := blk_frozen BK335.out 1
      have hfz11_2 := blk_frozen BK335.out 2
      have hfz11_3 := blk_frozen BK335.out 3
      go_wp2
      go_meet
      case rel => exact ⟨_, (true), (by first | rfl | (simp; done) | (simp [*]; done)), H', ⟨by first | omega | exact Nat.le_refl _⟩, ⟨by (with_reducible repeat (first | refine blk_drewN ?_ _ | refine blk_drew ?_ | refine blk_alloc ?_ _)); exact BK335.out⟩, ⟨by (with_reducible repeat (first | refine blk_drewN ?_ _ | refine blk_drew ?_ | refine blk_alloc ?_ _)); exact BK336.out⟩, ⟨by repeat (first | (with_reducible first | exact HB.out | apply below_alloc | apply pw_below_drewN | apply below_drew1 | refine below_set ?_ GE335.out | refine below_set ?_ GE336.out) | exact HB.out)⟩⟩
  case rest =>
    clear HC3
    try clear c1
    try clear p2
    try clear c3
    try clear c6
    try clear c7
    try clear c10
    try clear hcz11_0
    try clear hcz11_1
    try clear hcz11_2
    try clear hcz11_3
    try clear hcz8_0
    try clear hcz8_1
    try clear hcz8_2
    try clear hcz8_3
    try clear hcz9_0
    try clear hcz9_1
    try clear hcz9_2
    try clear hcz9_3
    try clear hfz11_0
    try clear hfz11_1
    try clear hfz11_2
    try clear hfz11_3
    try clear hfz8_0
    try clear hfz8_1
    try clear hfz8_2
    try clear hfz8_3
    try clear hfz9_0
    try clear hfz9_1
    try clear hfz9_2
    try clear hfz9_3
    obtain ⟨kq, x12_2, rfl, HA, HJ2, BK335, BK336, HB⟩ := hcut
    cases kq with
    | zero => exact absurd HA.out (by simp [impl_isAhead.j0])
    | succ kj2 =>
      have H := HA.out
      clear HA
      simp only [impl_isAhead.j0] at H
      by_cases c12 : x12_2 = true
      · subst c12
        have H1 : (if a0_0 = true then (some (!a1_0)) else (some false)) = some r := by rw [if_pos rfl] at H; exact H
        clear H
        have H := H1
        clear H1
        by_cases c13 : a0_0 = true
        · subst c13
          have H1 : (some (!a1_0)) = some r := by rw [if_pos rfl] at H; exact H
          clear H
          have H := H1
          clear H1
          obtain rfl := Option.some.inj H
          have hnb14 := NB335_336.out
          have hnc14 := NB336_335.out
          have hcz15_0 : wc.cell? ⟨gb335, 0, none⟩ = some (.bool true) := (blk_cell BK335.out 0).trans rfl
          have hcz15_1 : wc.cell? ⟨gb335, 1, none⟩ = some (.int .i64 a0_1) := (blk_cell BK335.out 1).trans rfl
          have hcz15_2 : wc.cell? ⟨gb335, 2, none⟩ = some (.int .i64 a0_2) := (blk_cell BK335.out 2).trans rfl
          have hcz15_3 : wc.cell? ⟨gb335, 3, none⟩ = some (.string a0_3) := (blk_cell BK335.out 3).trans rfl
          have hfz15_0 := blk_frozen BK335.out 0
          have hfz15_1 := blk_frozen BK335.out 1
          have hfz15_2 := blk_frozen BK335.out 2
          have hfz15_3 := blk_frozen BK335.out 3
          have hcz16_0 : wc.cell? ⟨gb336, 0, none⟩ = some (.bool a1_0) := (blk_cell BK336.out 0).trans rfl
          have hcz16_1 : wc.cell? ⟨gb336, 1, none⟩ = some (.int .i64 a1_1) := (blk_cell BK336.out 1).trans rfl
          have hcz16_2 : wc.cell? ⟨gb336, 2, none⟩ = some (.int .i64 a1_2) := (blk_cell BK336.out 2).trans rfl
          have hcz16_3 : wc.cell? ⟨gb336, 3, none⟩ = some (.string a1_3) := (blk_cell BK336.out 3).trans rfl
          have hfz16_0 := blk_frozen BK336.out 0
          have hfz16_1 := blk_frozen BK336.out 1
          have hfz16_2 := blk_frozen BK336.out 2
          have hfz16_3 := blk_frozen BK336.out 3
          go_wp2
          go_ret
          exact ⟨by first | rfl | (simp [errW_none, errW_some] <;> rfl) | (simp [*, errW_none, errW_some] <;> rfl), by repeat (first | (with_reducible first | exact HB.out | apply below_alloc | apply pw_below_drewN | apply below_drew1 | refine below_set ?_ GE335.out | refine below_set ?_ GE336.out) | exact HB.out)⟩
        · replace c13 := Bool.eq_false_iff.mpr c13
          subst c13
          have H1 : (some false) = some r := by rw [if_neg (show ¬ (false = true) by decide)] at H; exact H
          clear H
          have H := H1
          clear H1
          obtain rfl := Option.some.inj H
          have hnb17 := NB335_336.out
          have hnc17 := NB336_335.out
          have hcz18_0 : wc.cell? ⟨gb335, 0, none⟩ = some (.bool false) := (blk_cell BK335.out 0).trans rfl
          have hcz18_1 : wc.cell? ⟨gb335, 1, none⟩ = some (.int .i64 a0_1) := (blk_cell BK335.out 1).trans rfl
          have hcz18_2 : wc.cell? ⟨gb335, 2, none⟩ = some (.int .i64 a0_2) := (blk_cell BK335.out 2).trans rfl
          have hcz18_3 : wc.cell? ⟨gb335, 3, none⟩ = some (.string a0_3) := (blk_cell BK335.out 3).trans rfl
          have hfz18_0 := blk_frozen BK335.out 0
          have hfz18_1 := blk_frozen BK335.out 1
          have hfz18_2 := blk_frozen BK335.out 2
          have hfz18_3 := blk_frozen BK335.out 3
          go_wp2
          go_ret
          exact ⟨by first | rfl | (simp [errW_none, errW_some] <;> rfl) | (simp [*, errW_none, errW_some] <;> rfl), by repeat (first | (with_reducible first | exact HB.out | apply below_alloc | apply pw_below_drewN | apply below_drew1 | refine below_set ?_ GE335.out | refine below_set ?_ GE336.out) | exact HB.out)⟩
      · replace c12 := Bool.eq_false_iff.mpr c12
        subst c12
        have H1 : ((cmp_Compare_int.f a0_1 a1_1).bind fun t337 => ((cmp_Compare_int.f a1_2 a0_2).bind fun t338 => ((cmp_Compare_string.f a0_3 a1_3).bind fun t339 => ((cmp_Or_int.f kj2 (([t337, t338, t339] : List Int))).bind fun t343 => (some (decide (t343 < 0))))))) = some r := by rw [if_neg (show ¬ (false = true) by decide)] at H; exact H
        clear H
        have H := H1
        clear H1
        replace H := Option.bind_eq_some_iff.mp H
        obtain ⟨t337, A190, H⟩ := H
        replace H : ((cmp_Compare_int.f a1_2 a0_2).bind fun t338 => ((cmp_Compare_string.f a0_3 a1_3).bind fun t339 => ((cmp_Or_int.f kj2 (([t337, t338, t339] : List Int))).bind fun t343 => (some (decide (t343 < 0)))))) = some r := H
        have A19 := Aside0.mk A190
        clear A190
        replace H := Option.bind_eq_some_iff.mp H
        obtain ⟨t338, A200, H⟩ := H
        replace H : ((cmp_Compare_string.f a0_3 a1_3).bind fun t339 => ((cmp_Or_int.f kj2 (([t337, t338, t339] : List Int))).bind fun t343 => (some (decide (t343 < 0))))) = some r := H
        have A20 := Aside0.mk A200
        clear A200
        replace H := Option.bind_eq_some_iff.mp H
        obtain ⟨t339, A210, H⟩ := H
        replace H : ((cmp_Or_int.f kj2 (([t337, t338, t339] : List Int))).bind fun t343 => (some (decide (t343 < 0)))) = some r := H
        have A21 := Aside0.mk A210
        clear A210
        obtain ⟨y340, hy340⟩ : ∃ y_ : List Int, y_ = (([t337, t338, t339] : List Int)) := ⟨_, rfl⟩
        replace H : ((cmp_Or_int.f kj2 y340).bind fun t343 => (some (decide (t343 < 0)))) = some r := by first | (rw [hy340]; with_reducible exact H) | (have H2_ := (Option.bind_some _ _).symm.trans H; rw [hy340]; with_reducible exact H2_) | (have H2_ := (Option.bind_some _ _).symm.trans H; with_reducible exact H2_) | with_reducible exact H | (rw [hy340]; exact H) | exact H
        have Ny340 := Aside0.mk hy340
        clear hy340
        replace H := Option.bind_eq_some_iff.mp H
        obtain ⟨t343, A220, H⟩ := H
        replace H : (some (decide (t343 < 0))) = some r := H
        have A22 := Aside0.mk A220
        clear A220
        obtain rfl := Option.some.inj H
        try go_wp2
        have n0_ := Aside0.mk (blk_drew BK335.out)
        have n1_ := Aside0.mk (blk_drew BK336.out)
        have n2_ := Aside0.mk (below_drew1 HB.out)
        clear BK335
        clear BK336
        clear HB
        have BK335 := n0_
        have BK336 := n1_
        have HB := n2_
        clear n0_ n1_ n2_
        refine start_ (n := 19) (S := fun w' => w'.cell? ⟨gb335, 0, none⟩ = some (.bool a0_0) ∧ w'.cell? ⟨gb335, 1, none⟩ = some (.int .i64 a0_1) ∧ w'.cell? ⟨gb335, 2, none⟩ = some (.int .i64 a0_2) ∧ w'.cell? ⟨gb335, 3, none⟩ = some (.string a0_3) ∧ w'.cell? ⟨gb336, 0, none⟩ = some (.bool a1_0) ∧ w'.cell? ⟨gb336, 1, none⟩ = some (.int .i64 a1_1) ∧ w'.cell? ⟨gb336, 2, none⟩ = some (.int .i64 a1_2) ∧ w'.cell? ⟨gb336, 3, none⟩ = some (.string a1_3)) (ds := []) #[false, false, false, false, false, false, false, false, false, false, false, false, false, false, false, false, false, false, false] (by kernel_rfl) rfl rfl ⟨(blk_cell BK335.out 0).trans rfl, (blk_cell BK335.out 1).trans rfl, (blk_cell BK335.out 2).trans rfl, (blk_cell BK335.out 3).trans rfl, (blk_cell BK336.out 0).trans rfl, (blk_cell BK336.out 1).trans rfl, (blk_cell BK336.out 2).trans rfl, (blk_cell BK336.out 3).trans rfl⟩ (fun hHeld => ?_); refine with_tabW impl_isAhead.tab3 impl_isAhead.bits3 (fun HT_ HW_ => ?_)
        generalize wc.drew = w23 at BK335 BK336 HB hHeld ⊢
        refine pure_ (i := 0) (N := some 20) (v := ?_) (a' := ?_) #[true, false, false, false, false, false, false, false, false, false, false, false, false, false, false, false, false, false, false] rfl rfl (any_of HT_.out (by kernel_rfl)) (fun _ _ _ h => h) (Or.inl ⟨by rfl, ?_⟩) ?_ ?_
        rotate_left
        · intro w'
          go_simp
          with_reducible rfl
        rotate_left
        · simp only [Act.put, List.setIfInBounds_toArray, List.set_cons_zero, List.set_cons_succ, i64_w, i32_w]
          rfl
        refine pure_ (i := 2) (N := some 22) (v := ?_) (a' := ?_) #[true, false, true, false, false, false, false, false, false, false, false, false, false, false, false, false, false, false, false] rfl rfl (any_of HT_.out (by kernel_rfl)) (fun _ _ _ h => h) (Or.inl ⟨by rfl, ?_⟩) ?_ ?_
        rotate_left
        · intro w'
          go_simp
          with_reducible rfl
        rotate_left
        · simp only [Act.put, List.setIfInBounds_toArray, List.set_cons_zero, List.set_cons_succ, i64_w, i32_w]
          rfl
        refine pure_ (i := 5) (N := some 25) (v := ?_) (a' := ?_) #[true, false, true, false, false, true, false, false, false, false, false, false, false, false, false, false, false, false, false] rfl rfl (any_of HT_.out (by kernel_rfl)) (fun _ _ _ h => h) (Or.inl ⟨by rfl, ?_⟩) ?_ ?_
        rotate_left
        · intro w'
          go_simp
          with_reducible rfl
        rotate_left
        · simp only [Act.put, List.setIfInBounds_toArray, List.set_cons_zero, List.set_cons_succ, i64_w, i32_w]
          rfl
        refine pure_ (i := 7) (N := some 27) (v := ?_) (a' := ?_) #[true, false, true, false, false, true, false, true, false, false, false, false, false, false, false, false, false, false, false] rfl rfl (any_of HT_.out (by kernel_rfl)) (fun _ _ _ h => h) (Or.inl ⟨by rfl, ?_⟩) ?_ ?_
        rotate_left
        · intro w'
          go_simp
          with_reducible rfl
        rotate_left
        · simp only [Act.put, List.setIfInBounds_toArray, List.set_cons_zero, List.set_cons_succ, i64_w, i32_w]
          rfl
        refine pure_ (i := 10) (N := some 30) (v := ?_) (a' := ?_) #[true, false, true, false, false, true, false, true, false, false, true, false, false, false, false, false, false, false, false] rfl rfl (any_of HT_.out (by kernel_rfl)) (fun _ _ _ h => h) (Or.inl ⟨by rfl, ?_⟩) ?_ ?_
        rotate_left
        · intro w'
          go_simp
          with_reducible rfl
        rotate_left
        · simp only [Act.put, List.setIfInBounds_toArray, List.set_cons_zero, List.set_cons_succ, i64_w, i32_w]
          rfl
        refine pure_ (i := 12) (N := some 32) (v := ?_) (a' := ?_) #[true, false, true, false, false, true, false, true, false, false, true, false, true, false, false, false, false, false, false] rfl rfl (any_of HT_.out (by kernel_rfl)) (fun _ _ _ h => h) (Or.inl ⟨by rfl, ?_⟩) ?_ ?_
        rotate_left
        · intro w'
          go_simp
          with_reducible rfl
        rotate_left
        · simp only [Act.put, List.setIfInBounds_toArray, List.set_cons_zero, List.set_cons_succ, i64_w, i32_w]
          rfl
        refine take_ (i := 1) (N := some 21) (v := ?_) (a' := ?_) #[true, true, true, false, false, true, false, true, false, false, true, false, true, false, false, false, false, false, false] rfl rfl (take_ofW HT_.out HW_.out (by kernel_rfl)) (fun _ _ _ h => h) (Or.inl ⟨by rfl, ?_⟩) hHeld ?_ ?_
        rotate_left
        · rintro w' ⟨s0, s1, s2, s3, s4, s5, s6, s7⟩
          go_simp
          with_reducible rfl
        rotate_left
        · simp only [Act.put, List.setIfInBounds_toArray, List.set_cons_zero, List.set_cons_succ, i64_w, i32_w]
          rfl
        refine take_ (i := 3) (N := some 23) (v := ?_) (a' := ?_) #[true, true, true, true, false, true, false, true, false, false, true, false, true, false, false, false, false, false, false] rfl rfl (take_ofW HT_.out HW_.out (by kernel_rfl)) (fun _ _ _ h => h) (Or.inl ⟨by rfl, ?_⟩) hHeld ?_ ?_
        rotate_left
        · rintro w' ⟨s0, s1, s2, s3, s4, s5, s6, s7⟩
          go_simp
          with_reducible rfl
        rotate_left
        · simp only [Act.put, List.setIfInBounds_toArray, List.set_cons_zero, List.set_cons_succ, i64_w, i32_w]
          rfl
        refine take_ (i := 6) (N := some 26) (v := ?_) (a' := ?_) #[true, true, true, true, false, true, true, true, false, false, true, false, true, false, false, false, false, false, false] rfl rfl (take_ofW HT_.out HW_.out (by kernel_rfl)) (fun _ _ _ h => h) (Or.inl ⟨by rfl, ?_⟩) hHeld ?_ ?_
        rotate_left
        · rintro w' ⟨s0, s1, s2, s3, s4, s5, s6, s7⟩
          go_simp
          with_reducible rfl
        rotate_left
        · simp only [Act.put, List.setIfInBounds_toArray, List.set_cons_zero, List.set_cons_succ, i64_w, i32_w]
          rfl
        refine take_ (i := 8) (N := some 28) (v := ?_) (a' := ?_) #[true, true, true, true, false, true, true, true, true, false, true, false, true, false, false, false, false, false, false] rfl rfl (take_ofW HT_.out HW_.out (by kernel_rfl)) (fun _ _ _ h => h) (Or.inl ⟨by rfl, ?_⟩) hHeld ?_ ?_
        rotate_left
        · rintro w' ⟨s0, s1, s2, s3, s4, s5, s6, s7⟩
          go_simp
          with_reducible rfl
        rotate_left
        · simp only [Act.put, List.setIfInBounds_toArray, List.set_cons_zero, List.set_cons_succ, i64_w, i32_w]
          rfl
        refine take_ (i := 11) (N := some 31) (v := ?_) (a' := ?_) #[true, true, true, true, false, true, true, true, true, false, true, true, true, false, false, false, false, false, false] rfl rfl (take_ofW HT_.out HW_.out (by kernel_rfl)) (fun _ _ _ h => h) (Or.inl ⟨by rfl, ?_⟩) hHeld ?_ ?_
        rotate_left
        · rintro w' ⟨s0, s1, s2, s3, s4, s5, s6, s7⟩
          go_simp
          with_reducible rfl
        rotate_left
        · simp only [Act.put, List.setIfInBounds_toArray, List.set_cons_zero, List.set_cons_succ, i64_w, i32_w]
          rfl
        refine take_ (i := 13) (N := some 33) (v := ?_) (a' := ?_) #[true, true, true, true, false, true, true, true, true, false, true, true, true, true, false, false, false, false, false] rfl rfl (take_ofW HT_.out HW_.out (by kernel_rfl)) (fun _ _ _ h => h) (Or.inl ⟨by rfl, ?_⟩) hHeld ?_ ?_
        rotate_left
        · rintro w' ⟨s0, s1, s2, s3, s4, s5, s6, s7⟩
          go_simp
          with_reducible rfl
        rotate_left
        · simp only [Act.put, List.setIfInBounds_toArray, List.set_cons_zero, List.set_cons_succ, i64_w, i32_w]
          rfl
        refine one_ (i := 4) (N := some 24) #[true, true, true, true, true, true, true, true, true, false, true, true, true, true, false, false, false, false, false] rfl rfl (one_of HT_.out (by kernel_rfl)) (by decide) (fun K hK => ?_)
        refine goes_ Try.func48 (by kernel_rfl) rfl #[.int .i64 a0_1, .int .i64 a1_1] (by rfl) rfl rfl (by (try simp only [List.map_toArray, List.map_cons, List.map_nil]); first | done | rfl | (simp only [List.length_drop, List.length_take]; rfl)) ?_
        with_reducible refine (cmp_Compare_int.calls a0_1 a1_1 t337 _ A19.out).mono ?_
        rintro e w' ⟨rfl, ⟨nd, rfl⟩⟩
        refine ⟨_, rfl, ?_⟩
        refine hK.out _ _ ⟨(blk_cell BK335.out 0).trans rfl, (blk_cell BK335.out 1).trans rfl, (blk_cell BK335.out 2).trans rfl, (blk_cell BK335.out 3).trans rfl, (blk_cell BK336.out 0).trans rfl, (blk_cell BK336.out 1).trans rfl, (blk_cell BK336.out 2).trans rfl, (blk_cell BK336.out 3).trans rfl⟩ (fun hHeld => ?_)
        clear hK K
        refine norm_ (a' := ?_) ?_ ?_
        rotate_left
        · show Act.put _ (some 24) _ = _
          simp only [Act.put, List.setIfInBounds_toArray, List.set_cons_zero, List.set_cons_succ, i64_w, i32_w]
          rfl
        refine one_ (i := 9) (N := some 29) #[true, true, true, true, true, true, true, true, true, true, true, true, true, true, false, false, false, false, false] rfl rfl (one_of HT_.out (by kernel_rfl)) (by decide) (fun K hK => ?_)
        refine goes_ Try.func48 (by kernel_rfl) rfl #[.int .i64 a1_2, .int .i64 a0_2] (by rfl) rfl rfl (by (try simp only [List.map_toArray, List.map_cons, List.map_nil]); first | done | rfl | (simp only [List.length_drop, List.length_take]; rfl)) ?_
        with_reducible refine (cmp_Compare_int.calls a1_2 a0_2 t338 _ A20.out).mono ?_
        rintro e w' ⟨rfl, ⟨nd, rfl⟩⟩
        refine ⟨_, rfl, ?_⟩
        refine hK.out _ _ ⟨(blk_cell BK335.out 0).trans rfl, (blk_cell BK335.out 1).trans rfl, (blk_cell BK335.out 2).trans rfl, (blk_cell BK335.out 3).trans rfl, (blk_cell BK336.out 0).trans rfl, (blk_cell BK336.out 1).trans rfl, (blk_cell BK336.out 2).trans rfl, (blk_cell BK336.out 3).trans rfl⟩ (fun hHeld => ?_)
        clear hK K
        refine norm_ (a' := ?_) ?_ ?_
        rotate_left
        · show Act.put _ (some 29) _ = _
          simp only [Act.put, List.setIfInBounds_toArray, List.set_cons_zero, List.set_cons_succ, i64_w, i32_w]
          rfl
        refine one_ (i := 14) (N := some 34) #[true, true, true, true, true, true, true, true, true, true, true, true, true, true, true, false, false, false, false] rfl rfl (one_of HT_.out (by kernel_rfl)) (by decide) (fun K hK => ?_)
        refine goes_ Try.func49 (by kernel_rfl) rfl #[.string a0_3, .string a1_3] (by rfl) rfl rfl (by (try simp only [List.map_toArray, List.map_cons, List.map_nil]); first | done | rfl | (simp only [List.length_drop, List.length_take]; rfl)) ?_
        with_reducible refine (cmp_Compare_string.calls a0_3 a1_3 t339 _ A21.out).mono ?_
        rintro e w' ⟨rfl, ⟨nd, rfl⟩⟩
        refine ⟨_, rfl, ?_⟩
        refine hK.out _ _ ⟨(blk_cell BK335.out 0).trans rfl, (blk_cell BK335.out 1).trans rfl, (blk_cell BK335.out 2).trans rfl, (blk_cell BK335.out 3).trans rfl, (blk_cell BK336.out 0).trans rfl, (blk_cell BK336.out 1).trans rfl, (blk_cell BK336.out 2).trans rfl, (blk_cell BK336.out 3).trans rfl⟩ (fun hHeld => ?_)
        clear hK K
        refine norm_ (a' := ?_) ?_ ?_
        rotate_left
        · show Act.put _ (some 34) _ = _
          simp only [Act.put, List.setIfInBounds_toArray, List.set_cons_zero, List.set_cons_succ, i64_w, i32_w]
          rfl
        refine one_ (i := 15) (N := some 35) #[true, true, true, true, true, true, true, true, true, true, true, true, true, true, true, true, false, false, false] rfl rfl (one_of HT_.out (by kernel_rfl)) (by decide) (fun K hK => ?_)
        refine Kd.R_lit_step (Kd.int .i64) _ 3 ?hg (N := 35) ?hd (xs := ([t337, t338, t339] : List Int)) (inner := [.int .i64 t337, .int .i64 t338, .int .i64 t339]) (ok := fun _ => True) (okp := fun _ => True) ?hr ?hp (fun _ hk => hk) trivial (Below.refl _ _) (Nat.le_refl _) (by simp) ?_; (case hd => rfl); (case hg => rfl); (case hr => first | (go_simp; done) | (go_simp; rfl)); (case hp => exact (Reps.one (show Kd.M (Kd.int .i64) _ _ _ t337 [.int .i64 t337] from rfl) (Reps.one (show Kd.M (Kd.int .i64) _ _ _ t338 [.int .i64 t338] from rfl) (Reps.one (show Kd.M (Kd.int .i64) _ _ _ t339 [.int .i64 t339] from rfl) (Reps.none _ _)))))
        intro v341 w24 ho25 hb hg_ hnew_
        clear hg_ hnew_
        (first | rw [← Ny340.out] at ho25 | (simp only [Int.reduceToNat] at ho25; rw [← Ny340.out] at ho25))
        have n0_ := Aside0.mk (Kd.R_lower ho25 (below_size (by repeat (first | (with_reducible first | exact HB.out | apply below_alloc | apply pw_below_drewN | apply below_drew1 | refine below_set ?_ GE335.out | refine below_set ?_ GE336.out) | exact HB.out))))
        have n1_ := Aside0.mk (blk_below (g := gb335) (o := .cells #[.bool a0_0, .int .i64 a0_1, .int .i64 a0_2, .string a0_3] 25 (0, 0)) (by (with_reducible repeat (first | refine blk_drewN ?_ _ | refine blk_drew ?_ | refine blk_alloc ?_ _)); exact BK335.out) hb)
        have n2_ := Aside0.mk (blk_below (g := gb336) (o := .cells #[.bool a1_0, .int .i64 a1_1, .int .i64 a1_2, .string a1_3] 25 (0, 0)) (by (with_reducible repeat (first | refine blk_drewN ?_ _ | refine blk_drew ?_ | refine blk_alloc ?_ _)); exact BK336.out) hb)
        have n3_ := Aside0.mk (below_step (by repeat (first | (with_reducible first | exact HB.out | apply below_alloc | apply pw_below_drewN | apply below_drew1 | refine below_set ?_ GE335.out | refine below_set ?_ GE336.out) | exact HB.out)) hb)
        clear BK335
        clear BK336
        clear HB
        have HO342 := n0_
        have BK335 := n1_
        have BK336 := n2_
        have HB := n3_
        clear n0_ n1_ n2_ n3_
        clear hb ho25
        obtain ⟨Ao26, co26, eo26⟩ := Kd.R_slice HO342.out
        (first | subst eo26 | (injection eo26 with f1_ f2_ f3_; have f4_ := f1_.symm; have f5_ := f3_.symm; clear f1_ f2_ f3_; subst f4_; subst f5_))
        refine hK.out _ _ ⟨(blk_cell BK335.out 0).trans rfl, (blk_cell BK335.out 1).trans rfl, (blk_cell BK335.out 2).trans rfl, (blk_cell BK335.out 3).trans rfl, (blk_cell BK336.out 0).trans rfl, (blk_cell BK336.out 1).trans rfl, (blk_cell BK336.out 2).trans rfl, (blk_cell BK336.out 3).trans rfl⟩ (fun hHeld => ?_)
        clear hK K
        refine norm_ (a' := ?_) ?_ ?_
        rotate_left
        · show Act.put _ (some 35) _ = _
          simp only [Act.put, List.setIfInBounds_toArray, List.set_cons_zero, List.set_cons_succ, i64_w, i32_w]
          rfl
        refine one_ (i := 16) (N := some 36) #[true, true, true, true, true, true, true, true, true, true, true, true, true, true, true, true, true, false, false] rfl rfl (one_of HT_.out (by kernel_rfl)) (by decide) (fun K hK => ?_)
        refine goes_ Try.func47 (by kernel_rfl) rfl #[.slice Ao26 y340.length co26] (by rfl) rfl rfl (by (try simp only [List.map_toArray, List.map_cons, List.map_nil]); first | done | rfl | (simp only [List.length_drop, List.length_take]; rfl)) ?_
        with_reducible refine (cmp_Or_int.calls kj2 _ _ y340 t343 _ ?side1 ?side2 A22.out).mono ?_
        (case side1 => repeat (first | exact (Kd.R_reads' HO342.out).2.2 | (with_reducible refine Kd.C_alloc ?_ _) | (with_reducible refine Kd.C_drewN ?_ _) | (with_reducible refine Kd.C_drew ?_)))
        (case side2 => exact (Kd.R_reads' HO342.out).2.1)
        rintro e w' ⟨rfl, ⟨nd, rfl⟩⟩
        refine ⟨_, rfl, ?_⟩
        refine hK.out _ _ ⟨(blk_cell BK335.out 0).trans rfl, (blk_cell BK335.out 1).trans rfl, (blk_cell BK335.out 2).trans rfl, (blk_cell BK335.out 3).trans rfl, (blk_cell BK336.out 0).trans rfl, (blk_cell BK336.out 1).trans rfl, (blk_cell BK336.out 2).trans rfl, (blk_cell BK336.out 3).trans rfl⟩ (fun hHeld => ?_)
        clear hK K
        refine norm_ (a' := ?_) ?_ ?_
        rotate_left
        · show Act.put _ (some 36) _ = _
          simp only [Act.put, List.setIfInBounds_toArray, List.set_cons_zero, List.set_cons_succ, i64_w, i32_w]
          rfl
        refine pure_ (i := 17) (N := some 37) (v := ?_) (a' := ?_) #[true, true, true, true, true, true, true, true, true, true, true, true, true, true, true, true, true, true, false] rfl rfl (any_of HT_.out (by kernel_rfl)) (fun _ _ _ h => h) (Or.inl ⟨by rfl, ?_⟩) ?_ ?_
        rotate_left
        · intro w'
          go_simp
          with_reducible rfl
        rotate_left
        · simp only [Act.put, List.setIfInBounds_toArray, List.set_cons_zero, List.set_cons_succ, i64_w, i32_w]
          rfl
        refine pure_ (i := 18) (N := some 4) (v := ?_) (a' := ?_) #[true, true, true, true, true, true, true, true, true, true, true, true, true, true, true, true, true, true, true] rfl rfl (any_of HT_.out (by kernel_rfl)) (fun _ _ _ h => h) (Or.inl ⟨by rfl, ?_⟩) ?_ ?_
        rotate_left
        · intro w'
          go_simp
          with_reducible rfl
        rotate_left
        · simp only [Act.put, List.setIfInBounds_toArray, List.set_cons_zero, List.set_cons_succ, i64_w, i32_w]
          rfl
        refine done_ (done_of HT_.out (by kernel_rfl)) ?_
        try go_wp2
        go_ret
        exact ⟨by first | rfl | (simp [errW_none, errW_some] <;> rfl) | (simp [*, errW_none, errW_some] <;> rfl), by repeat (first | (with_reducible first | exact HB.out | apply below_alloc | apply pw_below_drewN | apply below_drew1 | refine below_set ?_ GE335.out | refine below_set ?_ GE336.out) | exact HB.out)⟩

/-! ### impl_Rec_55: function 55 -/
def impl_Rec_55.f (l0 : List S25) : Option (List S25) := if l0.length < 3518437208883 then (some l0) else (none)
set_option maxHeartbeats 2000000 in
theorem impl_Rec_55.calls (A0 : Option Addr) (c0 : Nat) (l0 : List S25) (r : List S25) (w : World) (hr0 : Kd.C k25 w A0 l0.length l0) (hc0 : l0.length ≤ c0) (h : impl_Rec_55.f l0 = some r) :
    Calls Try.prog 55 #[.slice A0 l0.length c0] w fun e w' => ∃ v0_ : Value, e = .returned (v0_) ∧ Kd.R k25 25 w' w.heap.size (fun _ => True) v0_ r ∧ Below w.heap.size w w' := by
  unfold impl_Rec_55.f at h
  by_cases c1 : l0.length < 3518437208883
  · rw [if_pos c1] at h
    obtain rfl := Option.some.inj h
    clear h
    have LM := Aside0.mk c1
    clear c1
    cases A0 with
    | none =>
      have e0 : l0 = [] := by
        rcases Nat.eq_zero_or_pos l0.length with hz | hz
        · exact List.eq_nil_of_length_eq_zero hz
        · obtain ⟨ad, e, _⟩ := hr0.2.2 hz; cases e
      subst e0
      clear hr0 hc0
      have q40 : ∀ (w : World) (a : Option Addr) (n c n' c' : Nat), (binOp .eql 31 (.slice a n c) (.slice none n' c')).run Try.prog w = .ok (.bool a.isNone) w := fun w a n c n' c' => Lib.run_eql_slice_nil w _ _ a n c n' c' Try.underlying31
      go_enter Try.func55, Try.ntmps55
      go_wp2
      go_ret
      exact ⟨_, rfl, Kd.R_nil _ _ _ _ _, Below.refl _ _⟩
    | some ad =>
      have HR0 := Aside0.mk hr0
      clear hr0
      have HB := Aside0.mk (Below.refl w.heap.size w)
      have q40 : ∀ (w : World) (a : Option Addr) (n c n' c' : Nat), (binOp .eql 31 (.slice a n c) (.slice none n' c')).run Try.prog w = .ok (.bool a.isNone) w := fun w a n c n' c' => Lib.run_eql_slice_nil w _ _ a n c n' c' Try.underlying31
      go_enter Try.func55, Try.ntmps55
      go_wp2_with (first | ((with_reducible refine gate_dst (N := 5) rfl ?_); refine Kd.R_lit k25 _ 25 ?hg (N := 5) ?hd (xs := ([] : List S25)) (inner := []) (ok := fun _ => True) (okp := fun _ => True) ?hr ?hp (fun _ hk => hk) trivial (Below.refl _ _) (Nat.le_refl _) (by simp) ?_; (case hd => rfl); (case hg => rfl); (case hr => first | (go_simp; done) | (go_simp; rfl)); (case hp => exact (Reps.none _ _)); intro v5 w5 ho hb hg_ hnew_; clear hg_ hnew_; have n0_ := Aside0.mk (Kd.R_lower ho (below_size HB.out)); have n1_ := Aside0.mk (below_step HB.out hb); clear HB; have HO5 := n0_; have HB := n1_; clear n0_ n1_ hb ho) | ((with_reducible refine gate_builtin (b := .append) (xs := #[.tmp 5, .tmp 6]) rfl ?_); at_builtin; refine Kd.R_append_rows k25 (w0 := w) w.heap.size rfl (.tmp 5) (.tmp 6) 31 25 (.agg #[.bool false, .int .i64 0, .int .i64 0, .string ⟨#[]⟩]) 40 rfl Try.underlying31 info25 rfl (by decide) (by omega) v5 ([] : List S25) l0 _ _ _ (fun _ => True) (fun _ => False) rfl rfl ?aO ?aR (fun _ _ h => h) (fun _ h => h.elim) ?aF ?aB ?aS ?aL ?_; (case aR => exact Kd.C_below HR0.out HB.out); (case aB => exact HB.out); (case aF => exact (fun _ _ => trivial)); (case aO => exact HO5.out); (case aS => exact (below_size HB.out)); (case aL => have := LM.out; simp; omega); intro v7 w7 ho hb hg hat; rw [List.nil_append] at ho; have n1_ := Aside0.mk hb; have n2_ := Aside0.mk ho; clear HB HO5; have HB := n1_; have HO7 := n2_; clear n1_ n2_ ho hb hg hat))
      go_ret
      exact ⟨_, rfl, HO7.out, HB.out⟩
  · rw [if_neg c1] at h
    cases h

/-! ### impl_rankBy: function 38 -/
/-- One wire over a list. -/
def swapR (x : S55) (l : List S25) : Option (List S25) :=
  if 0 ≤ x.f0 ∧ x.f0 < (l.length : Int) ∧ 0 ≤ x.f1 ∧ x.f1 < (l.length : Int) then
    (impl_isAhead.f 6 (rd_T25 l x.f1).f0 (rd_T25 l x.f1).f1 (rd_T25 l x.f1).f2 (rd_T25 l x.f1).f3 (rd_T25 l x.f0).f0 (rd_T25 l x.f0).f1 (rd_T25 l x.f0).f2 (rd_T25 l x.f0).f3).bind fun b =>
      if b = true then some ((l.set x.f0.toNat (rd_T25 l x.f1)).set x.f1.toNat (rd_T25 l x.f0)) else some l
  else none
def runR : List S55 → List S25 → Option (List S25)
  | [], l => some l
  | x :: ws, l => (swapR x l).bind (runR ws)
def impl_rankBy.f (a0_0 : Int) (l0_1 : List S55) (l1 : List S25) : Option (List S25) := if l1.length < 3518437208883 then (runR l0_1 l1) else (none)
/-- The four cells of an element of a row of one's own. -/
theorem cells4 {w : World} {base g n cap : Nat} {ok : Nat → Prop} {xs : List S25} (h : Kd.R k25 25 w base ok (.slice (some ⟨g, 0, none⟩) n cap) xs) (i : Nat) (hi : i < xs.length) :
    w.cell? ⟨g, i * 4, none⟩ = some (.bool (rd_T25 xs (i : Int)).f0) ∧ w.cell? ⟨g, i * 4 + 1, none⟩ = some (.int .i64 (rd_T25 xs (i : Int)).f1) ∧ w.cell? ⟨g, i * 4 + 2, none⟩ = some (.int .i64 (rd_T25 xs (i : Int)).f2) ∧ w.cell? ⟨g, i * 4 + 3, none⟩ = some (.string (rd_T25 xs (i : Int)).f3) := by
  have hr := (Kd.R_reads' h).2.2
  obtain ⟨ad, e, h0, h1, h2, h3⟩ := at_T25 hr (i : Int) (by omega) (by omega)
  cases e
  rw [Int.toNat_natCast, add_plain] at h0 h1 h2 h3
  exact ⟨h0, h1, h2, h3⟩
theorem free4 {w : World} {base g n cap : Nat} {ok : Nat → Prop} {xs : List S25} (h : Kd.R k25 25 w base ok (.slice (some ⟨g, 0, none⟩) n cap) xs) (hp : 0 < xs.length) (k : Nat) : w.frozen? ⟨g, k, none⟩ = false := by
  obtain ⟨g', cap', e, _, _, cells, hc⟩ := Kd.R_form h hp
  injection e with e1
  injection e1 with e1
  injection e1 with e1
  subst e1
  exact blk_frozen hc k
/-- An element stored whole. -/
theorem put4 {w : World} {base g n cap : Nat} {ok : Nat → Prop} {xs : List S25} (h : Kd.R k25 25 w base ok (.slice (some ⟨g, 0, none⟩) n cap) xs) (i : Nat) (hi : i < xs.length) (y : S25) :
    Kd.R k25 25 ((((w.setCell ⟨g, i * 4, none⟩ (.bool y.f0)).setCell ⟨g, i * 4 + 1, none⟩ (.int .i64 y.f1)).setCell ⟨g, i * 4 + 2, none⟩ (.int .i64 y.f2)).setCell ⟨g, i * 4 + 3, none⟩ (.string y.f3)) base ok (.slice (some ⟨g, 0, none⟩) n cap) (xs.set i y) := by
  obtain ⟨h0, h1, h2, h3⟩ := cells4 h i hi
  have hn : n = xs.length := (Kd.R_reads' h).1
  have := (Kd.R_seg h (i : Int) (by omega) (by omega) (j := 0) (x' := y) (seg := [.bool y.f0, .int .i64 y.f1, .int .i64 y.f2, .string y.f3]) (c := [.bool (rd_T25 xs (i : Int)).f0, .int .i64 (rd_T25 xs (i : Int)).f1, .int .i64 (rd_T25 xs (i : Int)).f2, .string (rd_T25 xs (i : Int)).f3]) rfl (by
      intro j u hu
      rw [Int.toNat_natCast]
      match j, hu with
      | 0, hu => cases hu; exact h0
      | 1, hu => cases hu; exact h1
      | 2, hu => cases hu; exact h2
      | 3, hu => cases hu; exact h3) (Nat.le_refl 4) (okp := fun _ => False) (by
      show Kd.M k25 w base (fun _ => False) y [.bool y.f0, .int .i64 y.f1, .int .i64 y.f2, .string y.f3]
      exact ⟨[.bool y.f0], [.int .i64 y.f1, .int .i64 y.f2, .string y.f3], rfl, rfl, ⟨[.int .i64 y.f1], [.int .i64 y.f2, .string y.f3], rfl, rfl, ⟨[.int .i64 y.f2], [.string y.f3], rfl, rfl, rfl⟩⟩⟩) (fun _ h => h.elim)).1
  rw [Int.toNat_natCast] at this
  exact this
set_option maxHeartbeats 8000000 in
set_option maxRecDepth 100000 in
theorem impl_rankBy.calls (a0_0 : Int) (A0_1 : Option Addr) (c0_1 : Nat) (l0_1 : List S55) (A1 : Option Addr) (c1 : Nat) (l1 : List S25) (r : List S25) (w : World) (hr0_1 : Kd.C k55 w A0_1 l0_1.length l0_1) (hc0_1 : l0_1.length ≤ c0_1) (hr1 : Kd.C k25 w A1 l1.length l1) (hc1 : l1.length ≤ c1) (h : impl_rankBy.f a0_0 l0_1 l1 = some r) :
    Calls Try.prog 38 #[.agg #[.int .i64 a0_0, .slice A0_1 l0_1.length c0_1], .slice A1 l1.length c1] w fun e w' => ∃ v0_ : Value, e = .returned (v0_) ∧ Kd.R k25 25 w' w.heap.size (fun _ => True) v0_ r ∧ Below w.heap.size w w' := by
  have hu26 := Try.underlying40
  have hu60 := Try.underlying55
  have hu99 := Try.underlying25
  have hl : l0_1.length ≤ 9223372036854775807 := hr0_1.2.1
  unfold impl_rankBy.f at h
  by_cases c1_ : l1.length < 3518437208883
  · rw [if_pos c1_] at h
    have HF := Aside0.mk h
    have HC1 := Aside0.mk (show impl_Rec_55.f l1 = some l1 from if_pos c1_)
    have HR0 := Aside0.mk hr0_1
    have HR1 := Aside0.mk hr1
    clear h c1_ hr0_1 hr1
    have HB := Aside0.mk ((Below.refl w.heap.size w).alloc (Nat.le_refl _) (.cells #[.int .i64 a0_0, .slice A0_1 l0_1.length c0_1] 40))
    go_enter Try.func38, Try.ntmps38
    go_wp2_with (go_at_call 55; refine (impl_Rec_55.calls A1 c1 l1 l1 _ (Kd.C_below HR1.out HB.out) hc1 HC1.out).mono ?_; rintro e w1 ⟨v, rfl, ho, hb⟩; have hp1 : w1.cell? ⟨w.heap.size, 1, none⟩ = some (.slice A0_1 l0_1.length c0_1) := (hb.cell (p := ⟨w.heap.size, 1, none⟩) (by simp)).trans (by simp); have n1_ := Aside0.mk (HB.out.trans (hb.mono (by simp))); have n2_ := Aside0.mk (Kd.R_lower ho (show w.heap.size ≤ _ by simp)); clear HB ho hb; have HB := n1_; have HO := n2_; clear n1_ n2_)
    go_loopg [13] l0_1.length (fun gg s13 wr => ∃ (kk : Nat) (xs : List S25), kk ≤ l0_1.length ∧ l0_1.length - kk ≤ gg ∧ s13 = .int .i64 kk ∧ Aside0 (Below w.heap.size w wr) ∧ Aside0 (Kd.R k25 25 wr w.heap.size (fun _ => True) v xs) ∧ Aside0 (runR (l0_1.drop kk) xs = some r))
    case atStart => exact ⟨0, l1, Nat.zero_le _, by omega, rfl, HB, HO, HF⟩
    case round =>
      clear HB HO HF
      obtain ⟨kk, xs, hkk, hgg, rfl, HB, HO, HF⟩ := hrel
      by_cases hlt : kk < l0_1.length
      · have hltz : (kk : Int) < (l0_1.length : Int) := by omega
        obtain ⟨ad, e, h0, h1⟩ := at_T55 HR0.out (kk : Int) (by omega) hltz
        cases e
        rw [Int.toNat_natCast] at h0 h1
        replace h0 := (HB.out.cell (World.block_lt_of_cell? w _ h0)).trans h0
        replace h1 := (HB.out.cell (World.block_lt_of_cell? w _ h1)).trans h1
        have hx : rd_T55 l0_1 (kk : Int) = l0_1[kk] := by simp [rd_T55, hlt]
        have HX := HF.out
        rw [List.drop_eq_getElem_cons hlt, ← hx] at HX
        clear hx HF
        generalize rd_T55 l0_1 (kk : Int) = x at h0 h1 HX
        obtain ⟨a, b⟩ := x
        simp only at h0 h1
        have HX2 : (swapR ⟨a, b⟩ xs).bind (runR (l0_1.drop (kk + 1))) = some r := HX
        clear HX
        obtain ⟨ys, hs, hrun⟩ := Option.bind_eq_some_iff.1 HX2
        clear HX2
        have HRUN := Aside0.mk hrun
        clear hrun
        unfold swapR at hs
        simp only at hs
        by_cases hin : 0 ≤ a ∧ a < (xs.length : Int) ∧ 0 ≤ b ∧ b < (xs.length : Int)
        · rw [if_pos hin] at hs
          obtain ⟨ha0, ha1, hb0, hb1⟩ := hin
          obtain ⟨i, rfl⟩ := Int.eq_ofNat_of_zero_le ha0
          obtain ⟨j, rfl⟩ := Int.eq_ofNat_of_zero_le hb0
          obtain ⟨g, cap, ev, hgb, hgl, _⟩ := Kd.R_form HO.out (by omega)
          subst ev
          have hi : i < xs.length := by omega
          have hj : j < xs.length := by omega
          obtain ⟨ci0, ci1, ci2, ci3⟩ := cells4 HO.out i hi
          obtain ⟨cj0, cj1, cj2, cj3⟩ := cells4 HO.out j hj
          have fr := free4 HO.out (by omega)
          have hne : g ≠ wr.heap.size := by omega
          obtain ⟨t, ht, hs⟩ := Option.bind_eq_some_iff.1 hs
          generalize hxe : rd_T25 xs (i : Int) = x at *
          generalize hye : rd_T25 xs (j : Int) = y at *
          obtain ⟨x0, x1, x2, x3⟩ := x
          obtain ⟨y0, y1, y2, y3⟩ := y
          simp only at ht
          have hcall := fun W => impl_isAhead.calls 6 y0 y1 y2 y3 x0 x1 x2 x3 t W ht
          clear ht ci0 ci1 ci2 ci3 cj0 cj1 cj2 cj3 fr
          go_wp2
          have ca : (wr.alloc (.cells #[.int .i64 (i : Int), .int .i64 (j : Int)] 55)).drew.cell? ⟨wr.heap.size, 0, none⟩ = some (.int .i64 (i : Int)) := by simp
          have cb : (wr.alloc (.cells #[.int .i64 (i : Int), .int .i64 (j : Int)] 55)).drew.cell? ⟨wr.heap.size, 1, none⟩ = some (.int .i64 (j : Int)) := by simp
          have HB1 := Aside0.mk ((HB.out.alloc HB.out.size (.cells #[.int .i64 (i : Int), .int .i64 (j : Int)] 55)).drew)
          have HO1 := Aside0.mk (Kd.R_drew (Kd.R_alloc HO.out (.cells #[.int .i64 (i : Int), .int .i64 (j : Int)] 55)))
          have hsz : wr.heap.size < (wr.alloc (.cells #[.int .i64 (i : Int), .int .i64 (j : Int)] 55)).drew.heap.size := by simp
          refine wp_region_still_tail 10 (by kernel_rfl) (by kernel_rfl) ?_
          simp only [List.take_succ_cons, List.take_zero, List.drop_succ_cons, List.drop_zero]
          change wpStill _ _ (World.drew _) (fun a' => wpList _ _ _ _ a' (World.drew _)) _ _
          generalize World.drew (wr.alloc (.cells #[.int .i64 (i : Int), .int .i64 (j : Int)] 55)) = W2 at ca cb HB1 HO1 hsz ⊢
          clear HB HO
          have HB := HB1
          have HO := HO1
          clear HB1 HO1
          have ci := cells4 HO.out i hi
          have cj := cells4 HO.out j hj
          rw [hxe] at ci
          rw [hye] at cj
          obtain ⟨ci0, ci1, ci2, ci3⟩ := ci
          obtain ⟨cj0, cj1, cj2, cj3⟩ := cj
          repeat still_step
          refine wpStill_nil ?_
          clear ci0 ci1 ci2 ci3 cj0 cj1 cj2 cj3
          cases t with
          | true =>
            obtain rfl := Option.some.inj hs
            clear hs
            go_wp2_with (go_at_call 31; refine (hcall _).mono ?_; rintro e w3 ⟨rfl, hb⟩; replace ca := (hb.cell (World.block_lt_of_cell? _ _ ca)).trans ca; replace cb := (hb.cell (World.block_lt_of_cell? _ _ cb)).trans cb; have n1_ := Aside0.mk (HB.out.trans (hb.mono HB.out.size)); have n2_ := Aside0.mk (Kd.R_below HO.out hb); have n3_ : wr.heap.size < w3.heap.size := Nat.lt_of_lt_of_le hsz hb.size; clear HB HO hb hsz; have HB := n1_; have HO := n2_; have hsz := n3_; clear n1_ n2_ n3_ hcall)
            have ci := cells4 HO.out i hi
            have cj := cells4 HO.out j hj
            rw [hxe] at ci
            rw [hye] at cj
            obtain ⟨ci0, ci1, ci2, ci3⟩ := ci
            obtain ⟨cj0, cj1, cj2, cj3⟩ := cj
            have fr := free4 HO.out (by omega)
            by_cases hij : i = j
            · subst hij
              have hxy := hye.symm.trans hxe
              injection hxy with q0 q1 q2 q3
              subst q0 q1 q2 q3
              have HP := Aside0.mk (put4 HO.out i hi ⟨y0, y1, y2, y3⟩)
              have HP2 := Aside0.mk (put4 HP.out i (by simpa using hi) ⟨y0, y1, y2, y3⟩)
              go_region
              all_goals go_wp2
              all_goals (go_roundg (l0_1.length - (kk + 1)))
              case measure => omega
              case rel => exact ⟨kk + 1, _, by omega, by omega, by go_num, ⟨((((((((HB.out.setCell hgb _).setCell hgb _).setCell hgb _).setCell hgb _).setCell hgb _).setCell hgb _).setCell hgb _).setCell hgb _).drew⟩, ⟨Kd.R_drew HP2.out⟩, HRUN⟩
            · have e00 : ¬ i * 4 = j * 4 := by omega
              have e10 : ¬ i * 4 + 1 = j * 4 + 1 := by omega
              have e20 : ¬ i * 4 + 2 = j * 4 + 2 := by omega
              have e30 : ¬ i * 4 + 3 = j * 4 + 3 := by omega
              have e01 : ¬ i * 4 = j * 4 + 1 := by omega
              have e02 : ¬ i * 4 = j * 4 + 2 := by omega
              have e03 : ¬ i * 4 = j * 4 + 3 := by omega
              have e11 : ¬ i * 4 + 1 = j * 4 := by omega
              have e12 : ¬ i * 4 + 1 = j * 4 + 2 := by omega
              have e13 : ¬ i * 4 + 1 = j * 4 + 3 := by omega
              have e21 : ¬ i * 4 + 2 = j * 4 := by omega
              have e22 : ¬ i * 4 + 2 = j * 4 + 1 := by omega
              have e23 : ¬ i * 4 + 2 = j * 4 + 3 := by omega
              have e31 : ¬ i * 4 + 3 = j * 4 := by omega
              have e32 : ¬ i * 4 + 3 = j * 4 + 1 := by omega
              have e33 : ¬ i * 4 + 3 = j * 4 + 2 := by omega
              have HP := Aside0.mk (put4 HO.out i hi ⟨y0, y1, y2, y3⟩)
              have HP2 := Aside0.mk (put4 HP.out j (by simpa using hj) ⟨x0, x1, x2, x3⟩)
              go_region
              all_goals go_wp2
              all_goals (go_roundg (l0_1.length - (kk + 1)))
              case measure => omega
              case rel => exact ⟨kk + 1, _, by omega, by omega, by go_num, ⟨((((((((HB.out.setCell hgb _).setCell hgb _).setCell hgb _).setCell hgb _).setCell hgb _).setCell hgb _).setCell hgb _).setCell hgb _).drew⟩, ⟨Kd.R_drew HP2.out⟩, HRUN⟩
          | false =>
            obtain rfl := Option.some.inj hs
            clear hs
            go_wp2_with (go_at_call 31; refine (hcall _).mono ?_; rintro e w3 ⟨rfl, hb⟩; replace ca := (hb.cell (World.block_lt_of_cell? _ _ ca)).trans ca; replace cb := (hb.cell (World.block_lt_of_cell? _ _ cb)).trans cb; have n1_ := Aside0.mk (HB.out.trans (hb.mono HB.out.size)); have n2_ := Aside0.mk (Kd.R_below HO.out hb); have n3_ : wr.heap.size < w3.heap.size := Nat.lt_of_lt_of_le hsz hb.size; clear HB HO hb hsz; have HB := n1_; have HO := n2_; have hsz := n3_; clear n1_ n2_ n3_ hcall)
            all_goals (go_roundg (l0_1.length - (kk + 1)))
            case measure => omega
            case rel => exact ⟨kk + 1, _, by omega, by omega, by go_num, HB, HO, HRUN⟩
        · rw [if_neg hin] at hs; cases hs
      · have hltz : ¬ (kk : Int) < (l0_1.length : Int) := by omega
        have HF2 := HF.out
        rw [List.drop_eq_nil_of_le (by omega)] at HF2
        obtain rfl := Option.some.inj HF2
        go_wp2
        go_ret
        exact ⟨v, rfl, HO.out, HB.out⟩
  · rw [if_neg c1_] at h
    cases h

end Go.Proofs.Ytncnmgklnnpeeaa.PFnRanked

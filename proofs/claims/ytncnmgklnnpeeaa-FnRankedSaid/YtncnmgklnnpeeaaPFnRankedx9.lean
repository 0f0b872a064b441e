-- Laid by a program of this session: what the print of the kit writes, and contracts of the session where the print takes no function. Lean checks it.
import Derived.Test.YtncnmgklnnpeeaaPFnRankedx0
import Derived.Test.YtncnmgklnnpeeaaPFnRankedx7
import Derived.Test.YtncnmgklnnpeeaaPFnRankedx8
namespace Go.Proofs.Ytncnmgklnnpeeaa.PFnRanked
open Go.RowKit Go.Proofs.YtncnmgklnnpeeaaW.PrintWords Go.Proofs.YtncnmgklnnpeeaaW.PrintLast Go.Proofs.YtncnmgklnnpeeaaW.PrintMore
attribute [local go_sem] max2_int min2_int max_two min_two max_three min_three max_four min_four   -- for this text's walks alone
set_option linter.unusedVariables false
set_option linter.unusedSimpArgs false

/-! ### impl_bitonic: function 40 -/
mutual
def impl_bitonic.l0 : Nat → Int → Int → Int → List (S55) → Option (Int × (List (S55)))
  | 0, _, _, _, _ => none
  | k + 1, x0, x4, x346000, x346001 => if x4 ≤ x0 then (impl_bitonic.l1 k x0 x4 0 x346000 x346001) else (some (x346000, x346001))
def impl_bitonic.l1 : Nat → Int → Int → Int → Int → List (S55) → Option (Int × (List (S55)))
  | 0, _, _, _, _, _ => none
  | k + 1, x0, x4, x5, x346000, x346001 => if x5 < x0 then (impl_bitonic.l2 k x0 x4 x5 (wrap64 (Int.tdiv x4 2)) 0 x346000 x346001) else (impl_bitonic.l3 k x0 x4 (wrap64 (Int.tdiv x4 4)) x346000 x346001)
def impl_bitonic.l2 : Nat → Int → Int → Int → Int → Int → Int → List (S55) → Option (Int × (List (S55)))
  | 0, _, _, _, _, _, _, _ => none
  | k + 1, x0, x4, x5, x24, x25, x346000, x346001 => if x25 < x24 then (if x346001.length < 8796093022208 then (impl_bitonic.l2 k x0 x4 x5 x24 (wrap64 (x25 + 1)) x346000 (x346001 ++ [(⟨wrap64 (x5 + x25), wrap64 ((wrap64 ((wrap64 (x5 + x4)) - 1)) - x25)⟩ : S55)])) else (none)) else (impl_bitonic.l1 k x0 x4 (wrap64 (x5 + x4)) x346000 x346001)
def impl_bitonic.l3 : Nat → Int → Int → Int → Int → List (S55) → Option (Int × (List (S55)))
  | 0, _, _, _, _, _ => none
  | k + 1, x0, x4, x7, x346000, x346001 => if x7 > 0 then (impl_bitonic.l4 k x0 x4 x7 0 x346000 x346001) else (impl_bitonic.l0 k x0 (wrap64 (x4 * 2)) x346000 x346001)
def impl_bitonic.l4 : Nat → Int → Int → Int → Int → Int → List (S55) → Option (Int × (List (S55)))
  | 0, _, _, _, _, _, _ => none
  | k + 1, x0, x4, x7, x8, x346000, x346001 => if x8 < x0 then (impl_bitonic.l5 k x0 x4 x7 x8 x7 0 x346000 x346001) else (impl_bitonic.l3 k x0 x4 (wrap64 (Int.tdiv x7 2)) x346000 x346001)
def impl_bitonic.l5 : Nat → Int → Int → Int → Int → Int → Int → Int → List (S55) → Option (Int × (List (S55)))
  | 0, _, _, _, _, _, _, _, _ => none
  | k + 1, x0, x4, x7, x8, x57, x58, x346000, x346001 => if x58 < x57 then (if x346001.length < 8796093022208 then (impl_bitonic.l5 k x0 x4 x7 x8 x57 (wrap64 (x58 + 1)) x346000 (x346001 ++ [(⟨wrap64 (x8 + x58), wrap64 ((wrap64 (x8 + x58)) + x7)⟩ : S55)])) else (none)) else (impl_bitonic.l4 k x0 x4 x7 (wrap64 (x8 + (wrap64 (2 * x7)))) x346000 x346001)
end
def impl_bitonic.f (k : Nat) (a0 : Int) : Option (Int × (List (S55))) := impl_bitonic.l0 k a0 2 a0 ([] : List (S55))
theorem impl_bitonic.mono_l : ∀ k, (∀ y0 y1 y2 y3, LeO (impl_bitonic.l0 k y0 y1 y2 y3) (impl_bitonic.l0 (k + 1) y0 y1 y2 y3)) ∧ (∀ y0 y1 y2 y3 y4, LeO (impl_bitonic.l1 k y0 y1 y2 y3 y4) (impl_bitonic.l1 (k + 1) y0 y1 y2 y3 y4)) ∧ (∀ y0 y1 y2 y3 y4 y5 y6, LeO (impl_bitonic.l2 k y0 y1 y2 y3 y4 y5 y6) (impl_bitonic.l2 (k + 1) y0 y1 y2 y3 y4 y5 y6)) ∧ (∀ y0 y1 y2 y3 y4, LeO (impl_bitonic.l3 k y0 y1 y2 y3 y4) (impl_bitonic.l3 (k + 1) y0 y1 y2 y3 y4)) ∧ (∀ y0 y1 y2 y3 y4 y5, LeO (impl_bitonic.l4 k y0 y1 y2 y3 y4 y5) (impl_bitonic.l4 (k + 1) y0 y1 y2 y3 y4 y5)) ∧ (∀ y0 y1 y2 y3 y4 y5 y6 y7, LeO (impl_bitonic.l5 k y0 y1 y2 y3 y4 y5 y6 y7) (impl_bitonic.l5 (k + 1) y0 y1 y2 y3 y4 y5 y6 y7))
  | 0 => ⟨fun _ _ _ _ r h => by simp [impl_bitonic.l0] at h, fun _ _ _ _ _ r h => by simp [impl_bitonic.l1] at h, fun _ _ _ _ _ _ _ r h => by simp [impl_bitonic.l2] at h, fun _ _ _ _ _ r h => by simp [impl_bitonic.l3] at h, fun _ _ _ _ _ _ r h => by simp [impl_bitonic.l4] at h, fun _ _ _ _ _ _ _ _ r h => by simp [impl_bitonic.l5] at h⟩
  | k + 1 => by
    obtain ⟨ih0, ih1, ih2, ih3, ih4, ih5⟩ := impl_bitonic.mono_l k
    refine ⟨?_, ?_, ?_, ?_, ?_, ?_⟩
    · intro y0 y1 y2 y3
      unfold impl_bitonic.l0
      repeat' first
      | (with_reducible exact ih0 _ _ _ _)
      | (with_reducible exact ih1 _ _ _ _ _)
      | (with_reducible exact ih2 _ _ _ _ _ _ _)
      | (with_reducible exact ih3 _ _ _ _ _)
      | (with_reducible exact ih4 _ _ _ _ _ _)
      | (with_reducible exact ih5 _ _ _ _ _ _ _ _)
      | (with_reducible exact LeO.refl _)
      | (with_reducible exact LeO.none _)
      | (with_reducible refine LeO.ite ?_ ?_)
      | (with_reducible refine LeO.bind ?_ (fun _ => ?_))
      | exact ih0 _ _ _ _
      | exact ih1 _ _ _ _ _
      | exact ih2 _ _ _ _ _ _ _
      | exact ih3 _ _ _ _ _
      | exact ih4 _ _ _ _ _ _
      | exact ih5 _ _ _ _ _ _ _ _
      | exact LeO.none _
      | refine LeO.ite ?_ ?_
      | refine LeO.bind ?_ (fun _ => ?_)
    · intro y0 y1 y2 y3 y4
      unfold impl_bitonic.l1
      repeat' first
      | (with_reducible exact ih0 _ _ _ _)
      | (with_reducible exact ih1 _ _ _ _ _)
      | (with_reducible exact ih2 _ _ _ _ _ _ _)
      | (with_reducible exact ih3 _ _ _ _ _)
      | (with_reducible exact ih4 _ _ _ _ _ _)
      | (with_reducible exact ih5 _ _ _ _ _ _ _ _)
      | (with_reducible exact LeO.refl _)
      | (with_reducible exact LeO.none _)
      | (with_reducible refine LeO.ite ?_ ?_)
      | (with_reducible refine LeO.bind ?_ (fun _ => ?_))
      | exact ih0 _ _ _ _
      | exact ih1 _ _ _ _ _
      | exact ih2 _ _ _ _ _ _ _
      | exact ih3 _ _ _ _ _
      | exact ih4 _ _ _ _ _ _
      | exact ih5 _ _ _ _ _ _ _ _
      | exact LeO.none _
      | refine LeO.ite ?_ ?_
      | refine LeO.bind ?_ (fun _ => ?_)
    · intro y0 y1 y2 y3 y4 y5 y6
      unfold impl_bitonic.l2
      repeat' first
      | (with_reducible exact ih0 _ _ _ _)
      | (with_reducible exact ih1 _ _ _ _ _)
      | (with_reducible exact ih2 _ _ _ _ _ _ _)
      | (with_reducible exact ih3 _ _ _ _ _)
      | (with_reducible exact ih4 _ _ _ _ _ _)
      | (with_reducible exact ih5 _ _ _ _ _ _ _ _)
      | (with_reducible exact LeO.refl _)
      | (with_reducible exact LeO.none _)
      | (with_reducible refine LeO.ite ?_ ?_)
      | (with_reducible refine LeO.bind ?_ (fun _ => ?_))
      | exact ih0 _ _ _ _
      | exact ih1 _ _ _ _ _
      | exact ih2 _ _ _ _ _ _ _
      | exact ih3 _ _ _ _ _
      | exact ih4 _ _ _ _ _ _
      | exact ih5 _ _ _ _ _ _ _ _
      | exact LeO.none _
      | refine LeO.ite ?_ ?_
      | refine LeO.bind ?_ (fun _ => ?_)
    · intro y0 y1 y2 y3 y4
      unfold impl_bitonic.l3
      repeat' first
      | (with_reducible exact ih0 _ _ _ _)
      | (with_reducible exact ih1 _ _ _ _ _)
      | (with_reducible exact ih2 _ _ _ _ _ _ _)
      | (with_reducible exact ih3 _ _ _ _ _)
      | (with_reducible exact ih4 _ _ _ _ _ _)
      | (with_reducible exact ih5 _ _ _ _ _ _ _ _)
      | (with_reducible exact LeO.refl _)
      | (with_reducible exact LeO.none _)
      | (with_reducible refine LeO.ite ?_ ?_)
      | (with_reducible refine LeO.bind ?_ (fun _ => ?_))
      | exact ih0 _ _ _ _
      | exact ih1 _ _ _ _ _
      | exact ih2 _ _ _ _ _ _ _
      | exact ih3 _ _ _ _ _
      | exact ih4 _ _ _ _ _ _
      | exact ih5 _ _ _ _ _ _ _ _
      | exact LeO.none _
      | refine LeO.ite ?_ ?_
      | refine LeO.bind ?_ (fun _ => ?_)
    · intro y0 y1 y2 y3 y4 y5
      unfold impl_bitonic.l4
      repeat' first
      | (with_reducible exact ih0 _ _ _ _)
      | (with_reducible exact ih1 _ _ _ _ _)
      | (with_reducible exact ih2 _ _ _ _ _ _ _)
      | (with_reducible exact ih3 _ _ _ _ _)
      | (with_reducible exact ih4 _ _ _ _ _ _)
      | (with_reducible exact ih5 _ _ _ _ _ _ _ _)
      | (with_reducible exact LeO.refl _)
      | (with_reducible exact LeO.none _)
      | (with_reducible refine LeO.ite ?_ ?_)
      | (with_reducible refine LeO.bind ?_ (fun _ => ?_))
      | exact ih0 _ _ _ _
      | exact ih1 _ _ _ _ _
      | exact ih2 _ _ _ _ _ _ _
      | exact ih3 _ _ _ _ _
      | exact ih4 _ _ _ _ _ _
      | exact ih5 _ _ _ _ _ _ _ _
      | exact LeO.none _
      | refine LeO.ite ?_ ?_
      | refine LeO.bind ?_ (fun _ => ?_)
    · intro y0 y1 y2 y3 y4 y5 y6 y7
      unfold impl_bitonic.l5
      repeat' first
      | (with_reducible exact ih0 _ _ _ _)
      | (with_reducible exact ih1 _ _ _ _ _)
      | (with_reducible exact ih2 _ _ _ _ _ _ _)
      | (with_reducible exact ih3 _ _ _ _ _)
      | (with_reducible exact ih4 _ _ _ _ _ _)
      | (with_reducible exact ih5 _ _ _ _ _ _ _ _)
      | (with_reducible exact LeO.refl _)
      | (with_reducible exact LeO.none _)
      | (with_reducible refine LeO.ite ?_ ?_)
      | (with_reducible refine LeO.bind ?_ (fun _ => ?_))
      | exact ih0 _ _ _ _
      | exact ih1 _ _ _ _ _
      | exact ih2 _ _ _ _ _ _ _
      | exact ih3 _ _ _ _ _
      | exact ih4 _ _ _ _ _ _
      | exact ih5 _ _ _ _ _ _ _ _
      | exact LeO.none _
      | refine LeO.ite ?_ ?_
      | refine LeO.bind ?_ (fun _ => ?_)
theorem impl_bitonic.mono : ∀ a0 k, LeO (impl_bitonic.f k a0) (impl_bitonic.f (k + 1) a0) := by
  intro a0 k
  obtain ⟨ih0, ih1, ih2, ih3, ih4, ih5⟩ := impl_bitonic.mono_l k
  unfold impl_bitonic.f
  repeat' first
      | (with_reducible exact ih0 _ _ _ _)
      | (with_reducible exact ih1 _ _ _ _ _)
      | (with_reducible exact ih2 _ _ _ _ _ _ _)
      | (with_reducible exact ih3 _ _ _ _ _)
      | (with_reducible exact ih4 _ _ _ _ _ _)
      | (with_reducible exact ih5 _ _ _ _ _ _ _ _)
      | (with_reducible exact LeO.refl _)
      | (with_reducible exact LeO.none _)
      | (with_reducible refine LeO.ite ?_ ?_)
      | (with_reducible refine LeO.bind ?_ (fun _ => ?_))
      | exact ih0 _ _ _ _
      | exact ih1 _ _ _ _ _
      | exact ih2 _ _ _ _ _ _ _
      | exact ih3 _ _ _ _ _
      | exact ih4 _ _ _ _ _ _
      | exact ih5 _ _ _ _ _ _ _ _
      | exact LeO.none _
      | refine LeO.ite ?_ ?_
      | refine LeO.bind ?_ (fun _ => ?_)
set_option maxHeartbeats 8000000 in
set_option maxRecDepth 100000 in
theorem impl_bitonic.calls (k : Nat) (a0 : Int) (r1 : Int) (r2 : List (S55)) (w : World) (h : impl_bitonic.f k a0 = some (r1, r2)) :
    Calls Try.prog 40 #[.int .i64 a0] w fun e w' => ∃ v1_ : Value, e = .returned (.agg #[.int .i64 r1, v1_]) ∧ Kd.R k55 55 w' w.heap.size (fun _ => True) v1_ r2 ∧ Below w.heap.size w w' := by
  have hu40 := Try.underlying40
  have hu55 := Try.underlying55
  have HB := Aside0.mk (Below.refl w.heap.size w)
  have H : (impl_bitonic.l0 k a0 2 a0 ([] : List (S55))) = some (r1, r2) := h
  clear h
  have H' := Aside0.mk H
  clear H
  go_enter Try.func40, Try.ntmps40
  go_wp2_with (first | ((with_reducible refine gate_dst (N := 2) rfl ?_); refine box_event ?hg (N := 2) ?hd (cs := #[.int .i64 0, .slice none 0 0]) (t := 40) ?hr ?_; (case hd => rfl); (case hg => rfl); (case hr => first | (go_simp; done) | (go_simp; rfl)); intro gb344 hg w2 hbox hb; have n0_ := Aside0.mk (below_step (by repeat (first | (with_reducible first | exact HB.out | apply below_alloc | apply pw_below_drewN | apply below_drew1) | exact HB.out)) hb); have n1_ := Aside0.mk (hbox); have n2_ := Aside0.mk ((by rw [hg]; exact (below_size (by repeat (first | (with_reducible first | exact HB.out | apply below_alloc | apply pw_below_drewN | apply below_drew1) | exact HB.out))) : w.heap.size ≤ gb344)); have n3_ := Aside0.mk ((by rw [hg]; exact (below_size (by repeat (first | (with_reducible first | exact HB.out | apply below_alloc | apply pw_below_drewN | apply below_drew1) | exact HB.out))) : w.heap.size ≤ gb344)); clear HB; have HB := n0_; have BK344 := n1_; have GW344 := n2_; have GE344 := n3_; clear n0_ n1_ n2_ n3_; clear hb hbox hg) | ((with_reducible refine gate_dst (N := 3) rfl ?_); refine box_event ?hg (N := 3) ?hd (cs := #[.int .i64 0, .slice none 0 0]) (t := 40) ?hr ?_; (case hd => rfl); (case hg => rfl); (case hr => first | (go_simp; done) | (go_simp; rfl)); intro gb345 hg w3 hbox hb; have n0_ := Aside0.mk (blk_below (g := gb344) (o := .cells #[.int .i64 0, .slice none 0 0] 40 (0, 0)) (by (with_reducible repeat (first | refine blk_drewN ?_ _ | refine blk_drew ?_ | refine blk_alloc ?_ _)); exact BK344.out) hb); have n1_ := Aside0.mk (below_step (by repeat (first | (with_reducible first | exact HB.out | apply below_alloc | apply pw_below_drewN | apply below_drew1 | refine below_set ?_ GE344.out) | exact HB.out)) hb); have n2_ := Aside0.mk (hbox); have n3_ := Aside0.mk ((by rw [hg]; exact (below_size (by repeat (first | (with_reducible first | exact HB.out | apply below_alloc | apply pw_below_drewN | apply below_drew1 | refine below_set ?_ GE344.out) | exact HB.out))) : w.heap.size ≤ gb345)); have n4_ := Aside0.mk ((by rw [hg]; exact (below_size (by repeat (first | (with_reducible first | exact HB.out | apply below_alloc | apply pw_below_drewN | apply below_drew1 | refine below_set ?_ GE344.out) | exact HB.out))) : w.heap.size ≤ gb345)); have n5_ := Aside0.mk ((by rw [hg]; exact Nat.ne_of_lt (blk_lt (g := gb344) (o := .cells #[.int .i64 0, .slice none 0 0] 40 (0, 0)) (by (with_reducible repeat (first | refine blk_drewN ?_ _ | refine blk_drew ?_ | refine blk_alloc ?_ _)); exact BK344.out)) : gb344 ≠ gb345)); have n6_ := Aside0.mk ((by rw [hg]; exact Nat.ne_of_gt (blk_lt (g := gb344) (o := .cells #[.int .i64 0, .slice none 0 0] 40 (0, 0)) (by (with_reducible repeat (first | refine blk_drewN ?_ _ | refine blk_drew ?_ | refine blk_alloc ?_ _)); exact BK344.out)) : gb345 ≠ gb344)); clear BK344; clear HB; have BK344 := n0_; have HB := n1_; have BK345 := n2_; have GW345 := n3_; have GE345 := n4_; have NB344_345 := n5_; have NB345_344 := n6_; clear n0_ n1_ n2_ n3_ n4_ n5_ n6_; clear hb hbox hg; have hnb4 := NB345_344.out; have hnc4 := NB344_345.out; have hcz5_0 : w3.cell? ⟨gb345, 0, none⟩ = some (.int .i64 0) := (blk_cell BK345.out 0).trans rfl; have hcz5_1 : w3.cell? ⟨gb345, 1, none⟩ = some (.slice none 0 0) := (blk_cell BK345.out 1).trans rfl; have hfz5_0 := blk_frozen BK345.out 0; have hfz5_1 := blk_frozen BK345.out 1))
  go_loopg [4] k (fun kq v4 w' => ∃ (x4_1 : Int) (x346001_1 : List (S55)) (u346001 : Value), v4 = .int .i64 x4_1 ∧ Aside0 (impl_bitonic.l0 kq a0 x4_1 a0 x346001_1 = some (r1, r2)) ∧ Aside0 (kq ≤ k) ∧ Aside0 (Kd.R k55 55 w' w.heap.size (fun _ => True) u346001 x346001_1) ∧ Aside0 (w'.heap[gb344]? = some (.cells #[.int .i64 0, (.slice none 0 0)] 40 (0, 0))) ∧ Aside0 (w'.heap[gb345]? = some (.cells #[.int .i64 a0, u346001] 40 (0, 0))) ∧ Aside0 (Below w.heap.size w w'))
  case atStart => exact ⟨(2), (([] : List (S55))), (.slice none 0 0), (by first | rfl | (simp; done) | (simp [*]; done)), H', ⟨Nat.le_refl _⟩, ⟨by first | exact Kd.R_nil _ _ _ _ _ | exact Kd.N_nil _ _ _ _ _ | exact Kd.V_nil _ _ _ _ _ | exact Kd.Q_nil _ _ _ _ _ | exact Kd.S_nil _ _ _ _ _⟩, ⟨by (with_reducible repeat (first | refine blk_drewN ?_ _ | refine blk_drew ?_ | refine blk_alloc ?_ _)); refine blk_far ?_ NB344_345.out _; (with_reducible repeat (first | refine blk_drewN ?_ _ | refine blk_drew ?_ | refine blk_alloc ?_ _)); refine blk_far ?_ NB344_345.out _; (with_reducible repeat (first | refine blk_drewN ?_ _ | refine blk_drew ?_ | refine blk_alloc ?_ _)); exact BK344.out⟩, ⟨by (with_reducible repeat (first | refine blk_drewN ?_ _ | refine blk_drew ?_ | refine blk_alloc ?_ _)); refine blk_put (cs := #[.int .i64 a0, .slice none 0 0]) ?_ 1 _ rfl; (with_reducible repeat (first | refine blk_drewN ?_ _ | refine blk_drew ?_ | refine blk_alloc ?_ _)); refine blk_put (cs := #[.int .i64 0, .slice none 0 0]) ?_ 0 _ rfl; (with_reducible repeat (first | refine blk_drewN ?_ _ | refine blk_drew ?_ | refine blk_alloc ?_ _)); exact BK345.out⟩, ⟨by repeat (first | (with_reducible first | exact HB.out | apply below_alloc | apply pw_below_drewN | apply below_drew1 | refine below_set ?_ GE344.out | refine below_set ?_ GE345.out) | exact HB.out)⟩⟩
  case round =>
    clear H'
    try clear p2
    try clear c4
    try clear hcz5_0
    try clear hcz5_1
    try clear hfz5_0
    try clear hfz5_1
    obtain ⟨x4_1, x346001_1, u346001, rfl, HA, HK1, HO_346001, BK344, BK345, HB⟩ := hrel
    cases gk with
    | zero => exact absurd HA.out (by simp [impl_bitonic.l0])
    | succ k1 =>
      have H := HA.out
      clear HA
      simp only [impl_bitonic.l0] at H
      by_cases c6 : x4_1 ≤ a0
      · rw [if_pos c6] at H
        have c6b0 : decide (x4_1 ≤ a0) = true := decide_eq_true c6
        clear c6
        have H' := Aside0.mk H
        clear H
        go_wp2
        go_loopg [5] k1 (fun kq v5 w' => ∃ (x5_2 : Int) (x346001_2 : List (S55)) (u346001 : Value), v5 = .int .i64 x5_2 ∧ Aside0 (impl_bitonic.l1 kq a0 x4_1 x5_2 a0 x346001_2 = some (r1, r2)) ∧ Aside0 (kq ≤ k1) ∧ Aside0 (Kd.R k55 55 w' w.heap.size (fun _ => True) u346001 x346001_2) ∧ Aside0 (w'.heap[gb344]? = some (.cells #[.int .i64 0, (.slice none 0 0)] 40 (0, 0))) ∧ Aside0 (w'.heap[gb345]? = some (.cells #[.int .i64 a0, u346001] 40 (0, 0))) ∧ Aside0 (Below w.heap.size w w'))
        case atStart => exact ⟨(0), (x346001_1), (u346001), (by first | rfl | (simp; done) | (simp [*]; done)), H', ⟨Nat.le_refl _⟩, ⟨by (with_reducible repeat (first | apply Kd.R_alloc | apply Kd.R_drewN | apply Kd.R_drew)); exact HO_346001.out⟩, ⟨by (with_reducible repeat (first | refine blk_drewN ?_ _ | refine blk_drew ?_ | refine blk_alloc ?_ _)); exact BK344.out⟩, ⟨by (with_reducible repeat (first | refine blk_drewN ?_ _ | refine blk_drew ?_ | refine blk_alloc ?_ _)); exact BK345.out⟩, ⟨by repeat (first | (with_reducible first | exact HB.out | apply below_alloc | apply pw_below_drewN | apply below_drew1 | refine below_set ?_ GE344.out | refine below_set ?_ GE345.out) | exact HB.out)⟩⟩
        case round =>
          clear H'
          try clear p2
          try clear c4
          try clear c6
          try clear c6b0
          try clear hcz5_0
          try clear hcz5_1
          try clear hfz5_0
          try clear hfz5_1
          try clear p2
          obtain ⟨x5_2, x346001_2, u346001, rfl, HA, HK2, HO_346001, BK344, BK345, HB⟩ := hrel
          cases gk with
          | zero => exact absurd HA.out (by simp [impl_bitonic.l1])
          | succ k2 =>
            have H := HA.out
            clear HA
            simp only [impl_bitonic.l1] at H
            by_cases c7 : x5_2 < a0
            · rw [if_pos c7] at H
              have c7b0 : decide (x5_2 < a0) = true := decide_eq_true c7
              clear c7
              have H' := Aside0.mk H
              clear H
              go_wp2
              go_loopg [25] k2 (fun kq v25 w' => ∃ (x25_3 : Int) (x346001_3 : List (S55)) (u346001 : Value), v25 = .int .i64 x25_3 ∧ Aside0 (impl_bitonic.l2 kq a0 x4_1 x5_2 (wrap64 (Int.tdiv x4_1 2)) x25_3 a0 x346001_3 = some (r1, r2)) ∧ Aside0 (kq ≤ k2) ∧ Aside0 (Kd.R k55 55 w' w.heap.size (fun _ => True) u346001 x346001_3) ∧ Aside0 (w'.heap[gb344]? = some (.cells #[.int .i64 0, (.slice none 0 0)] 40 (0, 0))) ∧ Aside0 (w'.heap[gb345]? = some (.cells #[.int .i64 a0, u346001] 40 (0, 0))) ∧ Aside0 (Below w.heap.size w w'))
              case atStart => exact ⟨(0), (x346001_2), (u346001), (by first | rfl | (simp; done) | (simp [*]; done)), H', ⟨Nat.le_refl _⟩, ⟨by (with_reducible repeat (first | apply Kd.R_alloc | apply Kd.R_drewN | apply Kd.R_drew)); exact HO_346001.out⟩, ⟨by (with_reducible repeat (first | refine blk_drewN ?_ _ | refine blk_drew ?_ | refine blk_alloc ?_ _)); exact BK344.out⟩, ⟨by (with_reducible repeat (first | refine blk_drewN ?_ _ | refine blk_drew ?_ | refine blk_alloc ?_ _)); exact BK345.out⟩, ⟨by repeat (first | (with_reducible first | exact HB.out | apply below_alloc | apply pw_below_drewN | apply below_drew1 | refine below_set ?_ GE344.out | refine below_set ?_ GE345.out) | exact HB.out)⟩⟩
              case round =>
                clear H'
                try clear p2
                try clear c4
                try clear c6
                try clear c6b0
                try clear p6
                try clear c7
                try clear c7b0
                try clear hcz5_0
                try clear hcz5_1
                try clear hfz5_0
                try clear hfz5_1
                try clear p2
                obtain ⟨x25_3, x346001_3, u346001, rfl, HA, HK3, HO_346001, BK344, BK345, HB⟩ := hrel
                cases gk with
                | zero => exact absurd HA.out (by simp [impl_bitonic.l2])
                | succ k3 =>
                  have H := HA.out
                  clear HA
                  simp only [impl_bitonic.l2] at H
                  by_cases c8 : x25_3 < (wrap64 (Int.tdiv x4_1 2))
                  · rw [if_pos c8] at H
                    have c8b0 : decide (x25_3 < (wrap64 (Int.tdiv x4_1 2))) = true := decide_eq_true c8
                    clear c8
                    by_cases c9 : x346001_3.length < 8796093022208
                    · rw [if_pos c9] at H
                      have LMc9 := Aside0.mk c9
                      clear c9
                      obtain ⟨y346, hy346⟩ : ∃ y_ : List (S55), y_ = (x346001_3 ++ [(⟨wrap64 (x5_2 + x25_3), wrap64 ((wrap64 ((wrap64 (x5_2 + x4_1)) - 1)) - x25_3)⟩ : S55)]) := ⟨_, rfl⟩
                      replace H : (impl_bitonic.l2 k3 a0 x4_1 x5_2 (wrap64 (Int.tdiv x4_1 2)) (wrap64 (x25_3 + 1)) a0 y346) = some (r1, r2) := by first | (rw [hy346]; with_reducible exact H) | (have H2_ := (Option.bind_some _ _).symm.trans H; rw [hy346]; with_reducible exact H2_) | (have H2_ := (Option.bind_some _ _).symm.trans H; with_reducible exact H2_) | with_reducible exact H | (rw [hy346]; exact H) | exact H
                      have Ny346 := Aside0.mk hy346
                      clear hy346
                      have H' := Aside0.mk H
                      clear H
                      have hnb10 := NB345_344.out
                      have hnc10 := NB344_345.out
                      have hcz11_0 : wr.cell? ⟨gb345, 0, none⟩ = some (.int .i64 a0) := (blk_cell BK345.out 0).trans rfl
                      have hcz11_1 : wr.cell? ⟨gb345, 1, none⟩ = some (u346001) := (blk_cell BK345.out 1).trans rfl
                      have hfz11_0 := blk_frozen BK345.out 0
                      have hfz11_1 := blk_frozen BK345.out 1
                      go_wp2_with (first | ((with_reducible refine gate_builtin (b := .append) (xs := #[.tmp 29, .tmp 40]) rfl ?_); at_builtin; refine Kd.R_append k55 (w0 := w) w.heap.size rfl (.tmp 29) (.tmp 40) 38 55 (.agg #[(.int .i64 0), (.int .i64 0)]) 16 rfl Try.underlying38 info55 rfl (by decide) (by omega) u346001 x346001_3 (⟨wrap64 (x5_2 + x25_3), wrap64 ((wrap64 ((wrap64 (x5_2 + x4_1)) - 1)) - x25_3)⟩ : S55) [.int .i64 (wrap64 (x5_2 + x25_3)), .int .i64 (wrap64 ((wrap64 ((wrap64 (x5_2 + x4_1)) - 1)) - x25_3))] (fun _ => True) (fun _ => False) rfl rfl ?aP (fun _ hk => hk.elim) ?aF ?aO ?aB ?aS ?aL ?_; (case aP => exact k55_mkM _ _ _ (⟨wrap64 (x5_2 + x25_3), wrap64 ((wrap64 ((wrap64 (x5_2 + x4_1)) - 1)) - x25_3)⟩ : S55)); (case aB => exact (by repeat (first | (with_reducible first | exact HB.out | apply below_alloc | apply pw_below_drewN | apply below_drew1 | refine below_set ?_ GE344.out | refine below_set ?_ GE345.out) | exact HB.out))); (case aF => exact (fun _ _ => trivial)); (case aO => exact (by (with_reducible repeat (first | apply Kd.R_alloc | apply Kd.R_drewN | apply Kd.R_drew)); exact HO_346001.out)); (case aS => exact (below_size (by repeat (first | (with_reducible first | exact HB.out | apply below_alloc | apply pw_below_drewN | apply below_drew1 | refine below_set ?_ GE344.out | refine below_set ?_ GE345.out) | exact HB.out)))); (case aL => have := LMc9.out; omega); intro v347 w12 ho hb hg hat; rw [← Ny346.out] at ho; have n0_ := Aside0.mk (blk_grown (g := gb344) (o := .cells #[.int .i64 0, .slice none 0 0] 40 (0, 0)) (by (with_reducible repeat (first | refine blk_drewN ?_ _ | refine blk_drew ?_ | refine blk_alloc ?_ _)); exact BK344.out) hg (Kd.R_ne HO_346001.out BK344.out (by decide))); have n1_ := Aside0.mk (blk_grown (g := gb345) (o := .cells #[.int .i64 a0, u346001] 40 (0, 0)) (by (with_reducible repeat (first | refine blk_drewN ?_ _ | refine blk_drew ?_ | refine blk_alloc ?_ _)); exact BK345.out) hg (Kd.R_ne HO_346001.out BK345.out (by decide))); have n2_ := Aside0.mk (hb); have n3_ := Aside0.mk (ho); clear BK344; clear BK345; clear HB; clear HO_346001; have BK344 := n0_; have BK345 := n1_; have HB := n2_; have HO348 := n3_; clear n0_ n1_ n2_ n3_; clear ho hb hg hat; obtain ⟨Ao13, co13, eo13⟩ := Kd.R_slice HO348.out; subst eo13; have hcz14_0 : w12.cell? ⟨gb345, 0, none⟩ = some (.int .i64 a0) := (blk_cell BK345.out 0).trans rfl; have hcz14_1 : w12.cell? ⟨gb345, 1, none⟩ = some (u346001) := (blk_cell BK345.out 1).trans rfl; have hfz14_0 := blk_frozen BK345.out 0; have hfz14_1 := blk_frozen BK345.out 1))
                      go_roundg k3
                      case measure => have := HK1.out; have := HK2.out; have := HK3.out; omega
                      case rel => exact ⟨(wrap64 (x25_3 + 1)), (y346), (.slice Ao13 y346.length co13), (by first | rfl | (simp; done) | (simp [*]; done)), H', ⟨by have := HK1.out; have := HK2.out; have := HK3.out; omega⟩, ⟨by (with_reducible repeat (first | apply Kd.R_alloc | apply Kd.R_drewN | apply Kd.R_drew)); exact Kd.R_mono (Kd.R_far (p := ⟨gb345, 1, none⟩) (Kd.R_types HO348.out BK345.out (by decide)) (fun _ hk => by first | exact hk.2 | trivial) (.slice Ao13 y346.length co13)) (fun _ hk => trivial)⟩, ⟨by (with_reducible repeat (first | refine blk_drewN ?_ _ | refine blk_drew ?_ | refine blk_alloc ?_ _)); refine blk_far ?_ NB344_345.out _; (with_reducible repeat (first | refine blk_drewN ?_ _ | refine blk_drew ?_ | refine blk_alloc ?_ _)); exact BK344.out⟩, ⟨by (with_reducible repeat (first | refine blk_drewN ?_ _ | refine blk_drew ?_ | refine blk_alloc ?_ _)); refine blk_put (cs := #[.int .i64 a0, u346001]) ?_ 1 _ rfl; (with_reducible repeat (first | refine blk_drewN ?_ _ | refine blk_drew ?_ | refine blk_alloc ?_ _)); exact BK345.out⟩, ⟨by repeat (first | (with_reducible first | exact HB.out | apply below_alloc | apply pw_below_drewN | apply below_drew1 | refine below_set ?_ GE344.out | refine below_set ?_ GE345.out) | exact HB.out)⟩⟩
                    · rw [if_neg c9] at H
                      exact absurd H (by simp)
                  · rw [if_neg c8] at H
                    have c8b0 : decide (x25_3 < (wrap64 (Int.tdiv x4_1 2))) = false := decide_eq_false c8
                    clear c8
                    have H' := Aside0.mk H
                    clear H
                    go_wp2
                    go_roundg k3
                    case measure => have := HK1.out; have := HK2.out; have := HK3.out; omega
                    case rel => exact ⟨(wrap64 (x5_2 + x4_1)), (x346001_3), (u346001), (by first | rfl | (simp; done) | (simp [*]; done)), H', ⟨by have := HK1.out; have := HK2.out; have := HK3.out; omega⟩, ⟨by (with_reducible repeat (first | apply Kd.R_alloc | apply Kd.R_drewN | apply Kd.R_drew)); exact HO_346001.out⟩, ⟨by (with_reducible repeat (first | refine blk_drewN ?_ _ | refine blk_drew ?_ | refine blk_alloc ?_ _)); exact BK344.out⟩, ⟨by (with_reducible repeat (first | refine blk_drewN ?_ _ | refine blk_drew ?_ | refine blk_alloc ?_ _)); exact BK345.out⟩, ⟨by repeat (first | (with_reducible first | exact HB.out | apply below_alloc | apply pw_below_drewN | apply below_drew1 | refine below_set ?_ GE344.out | refine below_set ?_ GE345.out) | exact HB.out)⟩⟩
            · rw [if_neg c7] at H
              have c7b0 : decide (x5_2 < a0) = false := decide_eq_false c7
              clear c7
              have H' := Aside0.mk H
              clear H
              go_wp2
              go_loopg [7] k2 (fun kq v7 w' => ∃ (x7_3 : Int) (x346001_3 : List (S55)) (u346001 : Value), v7 = .int .i64 x7_3 ∧ Aside0 (impl_bitonic.l3 kq a0 x4_1 x7_3 a0 x346001_3 = some (r1, r2)) ∧ Aside0 (kq ≤ k2) ∧ Aside0 (Kd.R k55 55 w' w.heap.size (fun _ => True) u346001 x346001_3) ∧ Aside0 (w'.heap[gb344]? = some (.cells #[.int .i64 0, (.slice none 0 0)] 40 (0, 0))) ∧ Aside0 (w'.heap[gb345]? = some (.cells #[.int .i64 a0, u346001] 40 (0, 0))) ∧ Aside0 (Below w.heap.size w w'))
              case atStart => exact ⟨(wrap64 (Int.tdiv x4_1 4)), (x346001_2), (u346001), (by first | rfl | (simp; done) | (simp [*]; done)), H', ⟨Nat.le_refl _⟩, ⟨by (with_reducible repeat (first | apply Kd.R_alloc | apply Kd.R_drewN | apply Kd.R_drew)); exact HO_346001.out⟩, ⟨by (with_reducible repeat (first | refine blk_drewN ?_ _ | refine blk_drew ?_ | refine blk_alloc ?_ _)); exact BK344.out⟩, ⟨by (with_reducible repeat (first | refine blk_drewN ?_ _ | refine blk_drew ?_ | refine blk_alloc ?_ _)); exact BK345.out⟩, ⟨by repeat (first | (with_reducible first | exact HB.out | apply below_alloc | apply pw_below_drewN | apply below_drew1 | refine below_set ?_ GE344.out | refine below_set ?_ GE345.out) | exact HB.out)⟩⟩
              case round =>
                clear H'
                try clear c1
                try clear p2
                try clear c4
                try clear c6
                try clear c6b0
                try clear p6
                try clear c7
                try clear c7b0
                try clear c8
                try clear c8b0
                try clear c9
                try clear c10
                try clear hcz11_0
                try clear hcz11_1
                try clear hcz14_0
                try clear hcz14_1
                try clear hcz5_0
                try clear hcz5_1
                try clear hfz11_0
                try clear hfz11_1
                try clear hfz14_0
                try clear hfz14_1
                try clear hfz5_0
                try clear hfz5_1
                try clear p2
                try clear p6
                obtain ⟨x7_3, x346001_3, u346001, rfl, HA, HK3, HO_346001, BK344, BK345, HB⟩ := hrel
                cases gk with
                | zero => exact absurd HA.out (by simp [impl_bitonic.l3])
                | succ k3 =>
                  have H := HA.out
                  clear HA
                  simp only [impl_bitonic.l3] at H
                  by_cases c15 : x7_3 > 0
                  · rw [if_pos c15] at H
                    have c15b0 : decide (0 < x7_3) = true := decide_eq_true c15
                    clear c15
                    have H' := Aside0.mk H
                    clear H
                    go_wp2
                    go_loopg [8] k3 (fun kq v8 w' => ∃ (x8_4 : Int) (x346001_4 : List (S55)) (u346001 : Value), v8 = .int .i64 x8_4 ∧ Aside0 (impl_bitonic.l4 kq a0 x4_1 x7_3 x8_4 a0 x346001_4 = some (r1, r2)) ∧ Aside0 (kq ≤ k3) ∧ Aside0 (Kd.R k55 55 w' w.heap.size (fun _ => True) u346001 x346001_4) ∧ Aside0 (w'.heap[gb344]? = some (.cells #[.int .i64 0, (.slice none 0 0)] 40 (0, 0))) ∧ Aside0 (w'.heap[gb345]? = some (.cells #[.int .i64 a0, u346001] 40 (0, 0))) ∧ Aside0 (Below w.heap.size w w'))
                    case atStart => exact ⟨(0), (x346001_3), (u346001), (by first | rfl | (simp; done) | (simp [*]; done)), H', ⟨Nat.le_refl _⟩, ⟨by (with_reducible repeat (first | apply Kd.R_alloc | apply Kd.R_drewN | apply Kd.R_drew)); exact HO_346001.out⟩, ⟨by (with_reducible repeat (first | refine blk_drewN ?_ _ | refine blk_drew ?_ | refine blk_alloc ?_ _)); exact BK344.out⟩, ⟨by (with_reducible repeat (first | refine blk_drewN ?_ _ | refine blk_drew ?_ | refine blk_alloc ?_ _)); exact BK345.out⟩, ⟨by repeat (first | (with_reducible first | exact HB.out | apply below_alloc | apply pw_below_drewN | apply below_drew1 | refine below_set ?_ GE344.out | refine below_set ?_ GE345.out) | exact HB.out)⟩⟩
                    case round =>
                      clear H'
                      try clear c1
                      try clear p2
                      try clear c4
                      try clear c6
                      try clear c6b0
                      try clear p6
                      try clear c7
                      try clear c7b0
                      try clear c8
                      try clear c8b0
                      try clear c9
                      try clear c10
                      try clear c15
                      try clear c15b0
                      try clear hcz11_0
                      try clear hcz11_1
                      try clear hcz14_0
                      try clear hcz14_1
                      try clear hcz5_0
                      try clear hcz5_1
                      try clear hfz11_0
                      try clear hfz11_1
                      try clear hfz14_0
                      try clear hfz14_1
                      try clear hfz5_0
                      try clear hfz5_1
                      try clear p2
                      try clear p6
                      obtain ⟨x8_4, x346001_4, u346001, rfl, HA, HK4, HO_346001, BK344, BK345, HB⟩ := hrel
                      cases gk with
                      | zero => exact absurd HA.out (by simp [impl_bitonic.l4])
                      | succ k4 =>
                        have H := HA.out
                        clear HA
                        simp only [impl_bitonic.l4] at H
                        by_cases c16 : x8_4 < a0
                        · rw [if_pos c16] at H
                          have c16b0 : decide (x8_4 < a0) = true := decide_eq_true c16
                          clear c16
                          have H' := Aside0.mk H
                          clear H
                          go_wp2
                          go_loopg [58] k4 (fun kq v58 w' => ∃ (x58_5 : Int) (x346001_5 : List (S55)) (u346001 : Value), v58 = .int .i64 x58_5 ∧ Aside0 (impl_bitonic.l5 kq a0 x4_1 x7_3 x8_4 x7_3 x58_5 a0 x346001_5 = some (r1, r2)) ∧ Aside0 (kq ≤ k4) ∧ Aside0 (Kd.R k55 55 w' w.heap.size (fun _ => True) u346001 x346001_5) ∧ Aside0 (w'.heap[gb344]? = some (.cells #[.int .i64 0, (.slice none 0 0)] 40 (0, 0))) ∧ Aside0 (w'.heap[gb345]? = some (.cells #[.int .i64 a0, u346001] 40 (0, 0))) ∧ Aside0 (Below w.heap.size w w'))
                          case atStart => exact ⟨(0), (x346001_4), (u346001), (by first | rfl | (simp; done) | (simp [*]; done)), H', ⟨Nat.le_refl _⟩, ⟨by (with_reducible repeat (first | apply Kd.R_alloc | apply Kd.R_drewN | apply Kd.R_drew)); exact HO_346001.out⟩, ⟨by (with_reducible repeat (first | refine blk_drewN ?_ _ | refine blk_drew ?_ | refine blk_alloc ?_ _)); exact BK344.out⟩, ⟨by (with_reducible repeat (first | refine blk_drewN ?_ _ | refine blk_drew ?_ | refine blk_alloc ?_ _)); exact BK345.out⟩, ⟨by repeat (first | (with_reducible first | exact HB.out | apply below_alloc | apply pw_below_drewN | apply below_drew1 | refine below_set ?_ GE344.out | refine below_set ?_ GE345.out) | exact HB.out)⟩⟩
                          case round =>
                            clear H'
                            try clear c1
                            try clear p2
                            try clear c4
                            try clear c6
                            try clear c6b0
                            try clear p6
                            try clear c7
                            try clear c7b0
                            try clear c8
                            try clear c8b0
                            try clear c9
                            try clear c10
                            try clear c15
                            try clear c15b0
                            try clear c16
                            try clear c16b0
                            try clear hcz11_0
                            try clear hcz11_1
                            try clear hcz14_0
                            try clear hcz14_1
                            try clear hcz5_0
                            try clear hcz5_1
                            try clear hfz11_0
                            try clear hfz11_1
                            try clear hfz14_0
                            try clear hfz14_1
                            try clear hfz5_0
                            try clear hfz5_1
                            try clear p2
                            try clear p6
                            obtain ⟨x58_5, x346001_5, u346001, rfl, HA, HK5, HO_346001, BK344, BK345, HB⟩ := hrel
                            cases gk with
                            | zero => exact absurd HA.out (by simp [impl_bitonic.l5])
                            | succ k5 =>
                              have H := HA.out
                              clear HA
                              simp only [impl_bitonic.l5] at H
                              by_cases c17 : x58_5 < x7_3
                              · rw [if_pos c17] at H
                                have c17b0 : decide (x58_5 < x7_3) = true := decide_eq_true c17
                                clear c17
                                by_cases c18 : x346001_5.length < 8796093022208
                                · rw [if_pos c18] at H
                                  have LMc18 := Aside0.mk c18
                                  clear c18
                                  obtain ⟨y349, hy349⟩ : ∃ y_ : List (S55), y_ = (x346001_5 ++ [(⟨wrap64 (x8_4 + x58_5), wrap64 ((wrap64 (x8_4 + x58_5)) + x7_3)⟩ : S55)]) := ⟨_, rfl⟩
                                  replace H : (impl_bitonic.l5 k5 a0 x4_1 x7_3 x8_4 x7_3 (wrap64 (x58_5 + 1)) a0 y349) = some (r1, r2) := by first | (rw [hy349]; with_reducible exact H) | (have H2_ := (Option.bind_some _ _).symm.trans H; rw [hy349]; with_reducible exact H2_) | (have H2_ := (Option.bind_some _ _).symm.trans H; with_reducible exact H2_) | with_reducible exact H | (rw [hy349]; exact H) | exact H
                                  have Ny349 := Aside0.mk hy349
                                  clear hy349
                                  have H' := Aside0.mk H
                                  clear H
                                  have hnb19 := NB345_344.out
                                  have hnc19 := NB344_345.out
                                  have hcz20_0 : wr.cell? ⟨gb345, 0, none⟩ = some (.int .i64 a0) := (blk_cell BK345.out 0).trans rfl
                                  have hcz20_1 : wr.cell? ⟨gb345, 1, none⟩ = some (u346001) := (blk_cell BK345.out 1).trans rfl
                                  have hfz20_0 := blk_frozen BK345.out 0
                                  have hfz20_1 := blk_frozen BK345.out 1
                                  go_wp2_with (first | ((with_reducible refine gate_builtin (b := .append) (xs := #[.tmp 62, .tmp 72]) rfl ?_); at_builtin; refine Kd.R_append k55 (w0 := w) w.heap.size rfl (.tmp 62) (.tmp 72) 38 55 (.agg #[(.int .i64 0), (.int .i64 0)]) 16 rfl Try.underlying38 info55 rfl (by decide) (by omega) u346001 x346001_5 (⟨wrap64 (x8_4 + x58_5), wrap64 ((wrap64 (x8_4 + x58_5)) + x7_3)⟩ : S55) [.int .i64 (wrap64 (x8_4 + x58_5)), .int .i64 (wrap64 ((wrap64 (x8_4 + x58_5)) + x7_3))] (fun _ => True) (fun _ => False) rfl rfl ?aP (fun _ hk => hk.elim) ?aF ?aO ?aB ?aS ?aL ?_; (case aP => exact k55_mkM _ _ _ (⟨wrap64 (x8_4 + x58_5), wrap64 ((wrap64 (x8_4 + x58_5)) + x7_3)⟩ : S55)); (case aB => exact (by repeat (first | (with_reducible first | exact HB.out | apply below_alloc | apply pw_below_drewN | apply below_drew1 | refine below_set ?_ GE344.out | refine below_set ?_ GE345.out) | exact HB.out))); (case aF => exact (fun _ _ => trivial)); (case aO => exact (by (with_reducible repeat (first | apply Kd.R_alloc | apply Kd.R_drewN | apply Kd.R_drew)); exact HO_346001.out)); (case aS => exact (below_size (by repeat (first | (with_reducible first | exact HB.out | apply below_alloc | apply pw_below_drewN | apply below_drew1 | refine below_set ?_ GE344.out | refine below_set ?_ GE345.out) | exact HB.out)))); (case aL => have := LMc18.out; omega); intro v350 w21 ho hb hg hat; rw [← Ny349.out] at ho; have n0_ := Aside0.mk (blk_grown (g := gb344) (o := .cells #[.int .i64 0, .slice none 0 0] 40 (0, 0)) (by (with_reducible repeat (first | refine blk_drewN ?_ _ | refine blk_drew ?_ | refine blk_alloc ?_ _)); exact BK344.out) hg (Kd.R_ne HO_346001.out BK344.out (by decide))); have n1_ := Aside0.mk (blk_grown (g := gb345) (o := .cells #[.int .i64 a0, u346001] 40 (0, 0)) (by (with_reducible repeat (first | refine blk_drewN ?_ _ | refine blk_drew ?_ | refine blk_alloc ?_ _)); exact BK345.out) hg (Kd.R_ne HO_346001.out BK345.out (by decide))); have n2_ := Aside0.mk (hb); have n3_ := Aside0.mk (ho); clear BK344; clear BK345; clear HB; clear HO_346001; have BK344 := n0_; have BK345 := n1_; have HB := n2_; have HO351 := n3_; clear n0_ n1_ n2_ n3_; clear ho hb hg hat; obtain ⟨Ao22, co22, eo22⟩ := Kd.R_slice HO351.out; subst eo22; have hcz23_0 : w21.cell? ⟨gb345, 0, none⟩ = some (.int .i64 a0) := (blk_cell BK345.out 0).trans rfl; have hcz23_1 : w21.cell? ⟨gb345, 1, none⟩ = some (u346001) := (blk_cell BK345.out 1).trans rfl; have hfz23_0 := blk_frozen BK345.out 0; have hfz23_1 := blk_frozen BK345.out 1))
                                  go_roundg k5
                                  case measure => have := HK1.out; have := HK2.out; have := HK3.out; have := HK4.out; have := HK5.out; omega
                                  case rel => exact ⟨(wrap64 (x58_5 + 1)), (y349), (.slice Ao22 y349.length co22), (by first | rfl | (simp; done) | (simp [*]; done)), H', ⟨by have := HK1.out; have := HK2.out; have := HK3.out; have := HK4.out; have := HK5.out; omega⟩, ⟨by (with_reducible repeat (first | apply Kd.R_alloc | apply Kd.R_drewN | apply Kd.R_drew)); exact Kd.R_mono (Kd.R_far (p := ⟨gb345, 1, none⟩) (Kd.R_types HO351.out BK345.out (by decide)) (fun _ hk => by first | exact hk.2 | trivial) (.slice Ao22 y349.length co22)) (fun _ hk => trivial)⟩, ⟨by (with_reducible repeat (first | refine blk_drewN ?_ _ | refine blk_drew ?_ | refine blk_alloc ?_ _)); refine blk_far ?_ NB344_345.out _; (with_reducible repeat (first | refine blk_drewN ?_ _ | refine blk_drew ?_ | refine blk_alloc ?_ _)); exact BK344.out⟩, ⟨by (with_reducible repeat (first | refine blk_drewN ?_ _ | refine blk_drew ?_ | refine blk_alloc ?_ _)); refine blk_put (cs := #[.int .i64 a0, u346001]) ?_ 1 _ rfl; (with_reducible repeat (first | refine blk_drewN ?_ _ | refine blk_drew ?_ | refine blk_alloc ?_ _)); exact BK345.out⟩, ⟨by repeat (first | (with_reducible first | exact HB.out | apply below_alloc | apply pw_below_drewN | apply below_drew1 | refine below_set ?_ GE344.out | refine below_set ?_ GE345.out) | exact HB.out)⟩⟩
                                · rw [if_neg c18] at H
                                  exact absurd H (by simp)
                              · rw [if_neg c17] at H
                                have c17b0 : decide (x58_5 < x7_3) = false := decide_eq_false c17
                                clear c17
                                have H' := Aside0.mk H
                                clear H
                                go_wp2
                                go_roundg k5
                                case measure => have := HK1.out; have := HK2.out; have := HK3.out; have := HK4.out; have := HK5.out; omega
                                case rel => exact ⟨(wrap64 (x8_4 + (wrap64 (2 * x7_3)))), (x346001_5), (u346001), (by first | rfl | (simp; done) | (simp [*]; done)), H', ⟨by have := HK1.out; have := HK2.out; have := HK3.out; have := HK4.out; have := HK5.out; omega⟩, ⟨by (with_reducible repeat (first | apply Kd.R_alloc | apply Kd.R_drewN | apply Kd.R_drew)); exact HO_346001.out⟩, ⟨by (with_reducible repeat (first | refine blk_drewN ?_ _ | refine blk_drew ?_ | refine blk_alloc ?_ _)); exact BK344.out⟩, ⟨by (with_reducible repeat (first | refine blk_drewN ?_ _ | refine blk_drew ?_ | refine blk_alloc ?_ _)); exact BK345.out⟩, ⟨by repeat (first | (with_reducible first | exact HB.out | apply below_alloc | apply pw_below_drewN | apply below_drew1 | refine below_set ?_ GE344.out | refine below_set ?_ GE345.out) | exact HB.out)⟩⟩
                        · rw [if_neg c16] at H
                          have c16b0 : decide (x8_4 < a0) = false := decide_eq_false c16
                          clear c16
                          have H' := Aside0.mk H
                          clear H
                          go_wp2
                          go_roundg k4
                          case measure => have := HK1.out; have := HK2.out; have := HK3.out; have := HK4.out; omega
                          case rel => exact ⟨(wrap64 (Int.tdiv x7_3 2)), (x346001_4), (u346001), (by first | rfl | (simp; done) | (simp [*]; done)), H', ⟨by have := HK1.out; have := HK2.out; have := HK3.out; have := HK4.out; omega⟩, ⟨by (with_reducible repeat (first | apply Kd.R_alloc | apply Kd.R_drewN | apply Kd.R_drew)); exact HO_346001.out⟩, ⟨by (with_reducible repeat (first | refine blk_drewN ?_ _ | refine blk_drew ?_ | refine blk_alloc ?_ _)); exact BK344.out⟩, ⟨by (with_reducible repeat (first | refine blk_drewN ?_ _ | refine blk_drew ?_ | refine blk_alloc ?_ _)); exact BK345.out⟩, ⟨by repeat (first | (with_reducible first | exact HB.out | apply below_alloc | apply pw_below_drewN | apply below_drew1 | refine below_set ?_ GE344.out | refine below_set ?_ GE345.out) | exact HB.out)⟩⟩
                  · rw [if_neg c15] at H
                    have c15b0 : decide (0 < x7_3) = false := decide_eq_false c15
                    clear c15
                    have H' := Aside0.mk H
                    clear H
                    go_wp2
                    go_roundg k3
                    case measure => have := HK1.out; have := HK2.out; have := HK3.out; omega
                    case rel => exact ⟨(wrap64 (x4_1 * 2)), (x346001_3), (u346001), (by first | rfl | (simp; done) | (simp [*]; done)), H', ⟨by have := HK1.out; have := HK2.out; have := HK3.out; omega⟩, ⟨by (with_reducible repeat (first | apply Kd.R_alloc | apply Kd.R_drewN | apply Kd.R_drew)); exact HO_346001.out⟩, ⟨by (with_reducible repeat (first | refine blk_drewN ?_ _ | refine blk_drew ?_ | refine blk_alloc ?_ _)); exact BK344.out⟩, ⟨by (with_reducible repeat (first | refine blk_drewN ?_ _ | refine blk_drew ?_ | refine blk_alloc ?_ _)); exact BK345.out⟩, ⟨by repeat (first | (with_reducible first | exact HB.out | apply below_alloc | apply pw_below_drewN | apply below_drew1 | refine below_set ?_ GE344.out | refine below_set ?_ GE345.out) | exact HB.out)⟩⟩
      · rw [if_neg c6] at H
        have c6b0 : decide (x4_1 ≤ a0) = false := decide_eq_false c6
        clear c6
        simp only [Option.some.injEq, Prod.mk.injEq] at H
        obtain ⟨rfl, rfl⟩ := H
        have hnb24 := NB345_344.out
        have hnc24 := NB344_345.out
        have hcz25_0 : wr.cell? ⟨gb345, 0, none⟩ = some (.int .i64 a0) := (blk_cell BK345.out 0).trans rfl
        have hcz25_1 : wr.cell? ⟨gb345, 1, none⟩ = some (u346001) := (blk_cell BK345.out 1).trans rfl
        have hfz25_0 := blk_frozen BK345.out 0
        have hfz25_1 := blk_frozen BK345.out 1
        have hcz26_0 : wr.cell? ⟨gb344, 0, none⟩ = some (.int .i64 0) := (blk_cell BK344.out 0).trans rfl
        have hcz26_1 : wr.cell? ⟨gb344, 1, none⟩ = some (.slice none 0 0) := (blk_cell BK344.out 1).trans rfl
        have hfz26_0 := blk_frozen BK344.out 0
        have hfz26_1 := blk_frozen BK344.out 1
        obtain ⟨Ao27, co27, eo27⟩ := Kd.R_slice HO_346001.out
        subst eo27
        go_wp2
        refine bodyPost_ret (results_cell_row rfl _ _ gb344 40 #[.int .i64 a0, .slice Ao27 x346001_1.length co27] (0, 0) _ rfl (by (with_reducible repeat (first | refine blk_drewN ?_ _ | refine blk_drew ?_ | refine blk_alloc ?_ _)); refine blk_put (cs := #[.int .i64 a0, .slice none 0 0]) ?_ 1 _ rfl; (with_reducible repeat (first | refine blk_drewN ?_ _ | refine blk_drew ?_ | refine blk_alloc ?_ _)); refine blk_put (cs := #[.int .i64 0, .slice none 0 0]) ?_ 0 _ rfl; (with_reducible repeat (first | refine blk_drewN ?_ _ | refine blk_drew ?_ | refine blk_alloc ?_ _)); exact BK344.out) Try.underlying40 rfl (by kernel_rfl)) rfl ?_
        exact ⟨_, by first | rfl | (simp [errW_none, errW_some] <;> rfl) | (simp [*, errW_none, errW_some] <;> rfl), by (with_reducible repeat (first | apply Kd.R_alloc | apply Kd.R_drewN | apply Kd.R_drew)); exact Kd.R_mono (Kd.R_far (p := ⟨gb344, 1, none⟩) (Kd.R_far (p := ⟨gb344, 0, none⟩) (Kd.R_types HO_346001.out BK344.out (by decide)) (fun _ hk => by first | exact hk.2 | trivial) (.int .i64 a0)) (fun _ hk => by first | exact hk.2 | trivial) (.slice Ao27 x346001_1.length co27)) (fun _ hk => trivial), by repeat (first | (with_reducible first | exact HB.out | apply below_alloc | apply pw_below_drewN | apply below_drew1 | refine below_set ?_ GE344.out | refine below_set ?_ GE345.out) | exact HB.out)⟩

/-! ### impl_rank: function 35 -/
/-! copy for elements of four cells -/
def enc4 (x : S25) : List Value := [.bool x.f0, .int .i64 x.f1, .int .i64 x.f2, .string x.f3]
def flat4 (l : List S25) : List Value := l.flatMap enc4
theorem flat4_cons (x : S25) (l : List S25) : flat4 (x :: l) = enc4 x ++ flat4 l := rfl
theorem flat4_length : ∀ l : List S25, (flat4 l).length = l.length * 4
  | [] => rfl
  | x :: l => by rw [flat4_cons, List.length_append, flat4_length l, List.length_cons, show (enc4 x).length = 4 from rfl]; omega
theorem flat4_append (a b : List S25) : flat4 (a ++ b) = flat4 a ++ flat4 b := by simp [flat4]
theorem flat4_drop : ∀ (l : List S25) (m : Nat), flat4 (l.drop m) = (flat4 l).drop (m * 4)
  | [], m => by simp [flat4]
  | x :: l, 0 => by simp
  | x :: l, m + 1 => by
    rw [List.drop_succ_cons, flat4_drop l m, flat4_cons, show (m + 1) * 4 = m * 4 + 4 by omega]
    rfl
theorem flat4_get (l : List S25) (j : Nat) (hj : j / 4 < l.length) : (flat4 l)[j]? = (enc4 l[j / 4])[j % 4]? := by
  have e : (flat4 l)[j]? = ((flat4 l).drop (j / 4 * 4))[j % 4]? := by
    rw [List.getElem?_drop]
    congr 1
    omega
  rw [e, ← flat4_drop, List.drop_eq_getElem_cons hj, flat4_cons, List.getElem?_append_left (by rw [show (enc4 l[j / 4]).length = 4 from rfl]; omega)]
theorem mk4 (w : World) (base : Nat) (ok : Nat → Prop) (x : S25) : k25.M w base ok x (enc4 x) := ⟨[.bool x.f0], [.int .i64 x.f1, .int .i64 x.f2, .string x.f3], rfl, rfl, ⟨[.int .i64 x.f1], [.int .i64 x.f2, .string x.f3], rfl, rfl, ⟨[.int .i64 x.f2], [.string x.f3], rfl, rfl, rfl⟩⟩⟩
theorem flat4_reps {w : World} {base : Nat} {ok : Nat → Prop} : ∀ (l acc : List S25) (inner : List Value), Reps (k25.M w base ok) 4 acc inner → Reps (k25.M w base ok) 4 (acc ++ l) (inner ++ flat4 l)
  | [], acc, inner, h => by simpa [flat4] using h
  | x :: l, acc, inner, h => by
    have := flat4_reps l (acc ++ [x]) (inner ++ enc4 x) (h.snoc (mk4 w base ok x) rfl)
    rw [List.append_assoc, List.append_assoc] at this
    exact this
theorem reps_flat4 {w : World} {base : Nat} {ok : Nat → Prop} : ∀ (l : List S25) (inner : List Value), Reps (k25.M w base ok) 4 l inner → inner = flat4 l
  | [], inner, h => by
    have := h.1
    exact List.eq_nil_of_length_eq_zero (by simpa using this)
  | x :: l, inner, h => by
    have h0 := h.2 0 x rfl
    rw [Nat.zero_mul, List.drop_zero] at h0
    have e0 : inner.take 4 = enc4 x := k25_open (k25.K_of_M h0)
    have hd : Reps (k25.M w base ok) 4 l (inner.drop 4) := by
      have := Kd.reps_drop (m := 1) h
      rw [Nat.one_mul] at this
      exact this
    rw [← List.take_append_drop 4 inner, e0, reps_flat4 l _ hd]
    rfl
theorem reads_flat4 {w : World} {A : Option Addr} {n : Nat} {ys : List S25} (h : Kd.C k25 w A n ys) (hp : 0 < n) : ∃ ad, A = some ad ∧ ∀ j u, (flat4 ys)[j]? = some u → w.cell? (ad.add j) = some u := by
  obtain ⟨hl, _, hc⟩ := h
  obtain ⟨ad, e, hc⟩ := hc hp
  refine ⟨ad, e, fun j u hu => ?_⟩
  have hj : j < (flat4 ys).length := by
    rcases Nat.lt_or_ge j (flat4 ys).length with h | h
    · exact h
    · rw [List.getElem?_eq_none h] at hu; cases hu
  rw [flat4_length] at hj
  have hq : j / 4 < ys.length := by omega
  obtain ⟨c, hs, hk, hcell⟩ := hc (j / 4) ys[j / 4] (List.getElem?_eq_getElem hq)
  have e4 : c = enc4 ys[j / 4] := k25_open hk
  subst e4
  rw [flat4_get ys j hq] at hu
  have := hcell (j % 4) u hu
  rwa [show j / 4 * k25.sz + j % 4 = j from by show j / 4 * 4 + j % 4 = j; omega] at this
theorem run_copy_cells4 {P : Program} (w : World) (dT sT ty elem : TypeId) (b o dLen dCap : Nat) (a : Addr) (sLen sCap : Nat) (cs : List Value)
    (hu : P.underlying dT = some (.slice elem)) (hs : (P.info? elem).map (·.size) = some 4) (hn : cs.length = Nat.min sLen dLen * 4)
    (hsrc : ∀ j v, cs[j]? = some v → w.cell? (a.add j) = some v) (hc : ∀ j, j < cs.length → (w.cell? ⟨b, o + j, none⟩).isSome = true) (hf : ∀ j, j < cs.length → w.frozen? ⟨b, o + j, none⟩ = false) (h1 : ∀ v ∈ cs, v.oneCell' = true) :
    (Builtin.copy_ #[dT, sT] ty #[.slice (some ⟨b, o, none⟩) dLen dCap, .slice (some a) sLen sCap]).run P w = .ok (goInt (Nat.min sLen dLen)) (w.setCells b o cs) := by
  have hl := run_loadCells_list (P := P) w a cs hsrc
  have hst := run_storeCells_cells (P := P) b o cs 0 w (by simpa using hc) (by simpa using hf) h1
  cases hq : P.info? elem with
  | none => simp [hq] at hs
  | some i =>
    have hi : i.size = 4 := by simpa [hq] using hs
    simp [Builtin.copy_, run_underlying hu, Builtin.lenOf, Builtin.firstCells, sizeOf, typeInfo, hq, hi, ← hn, hl, hst]
theorem run_copy_none4 {P : Program} (w : World) (dT sT ty elem : TypeId) (d a : Option Addr) (dLen dCap sLen sCap : Nat) (hu : P.underlying dT = some (.slice elem)) (hs : (P.info? elem).map (·.size) = some 4) (hn : Nat.min sLen dLen = 0) :
    (Builtin.copy_ #[dT, sT] ty #[.slice d dLen dCap, .slice a sLen sCap]).run P w = .ok (goInt 0) w := by
  cases hq : P.info? elem with
  | none => simp [hq] at hs
  | some i =>
    have hl : ∀ (x : Addr), (loadCells x 0).run P w = .ok #[] w := fun x => by simpa using run_loadCells_list (P := P) w x [] (by simp)
    cases d <;> cases a <;> simp [Builtin.copy_, run_underlying hu, Builtin.lenOf, Builtin.firstCells, sizeOf, typeInfo, hq, hn, storeCells, hl]
theorem R_copy4 {P : Program} {ops : Array Oper} {rest : List Oper} {o : Oper} {a : Act} {Q : Exit → Act → World → Prop} {w0 W : World} (base : Nat) (hgd : o.guard = none) (s x : Operand) (t t' : TypeId)
    (ho : o.op = .call { callee := .builtin .copy, args := #[s, x], argTypes := #[t, t'] }) (ht : P.underlying t = some (.slice 25)) (hinfo : (P.info? 25).map (·.size) = some 4)
    (v : Value) (xs ys : List S25) (A : Option Addr) (m c : Nat) (ok : Nat → Prop) (hs : a.eval s = v) (hx : a.eval x = .slice A m c)
    (HO : Kd.R k25 25 W base ok v xs) (HR : Kd.C k25 W A m ys) (HB : Below base w0 W) (hbase : base ≤ W.heap.size)
    (h : ∀ w1, Kd.R k25 25 w1 base ok v (ys.take (min m xs.length) ++ xs.drop (min m xs.length)) → Below base w0 w1 → wpList P ops Q rest (a.put o.dst (.int .i64 ((min m xs.length : Nat) : Int))) w1) :
    wpList P ops Q (o :: rest) a W := by
  have HO0 := HO
  obtain ⟨hok, inner, hown, hr⟩ := HO
  have hm : ys.length = m := HR.1
  have ei : inner = flat4 xs := reps_flat4 xs inner hr
  have hown : W.ownsRow base 25 4 v xs.length inner := hown
  have fin : ∀ w1, (Builtin.copy_ #[t, t'] o.type #[v, .slice A m c]).run P W = .ok (goInt ((min m xs.length : Nat) : Int)) w1 → Kd.R k25 25 w1 base ok v (ys.take (min m xs.length) ++ xs.drop (min m xs.length)) → W.grownBy w1 v.ownBlock → wpList P ops Q (o :: rest) a W := by
    intro w1 hr hrow hg
    refine wpList_plain hgd fun K hK => ?_
    unfold Oper.wp execOp
    simp only [ho, resolve, invoke, builtin, Sem.run_bind, Sem.run_pure, Result.andThen_ok, List.map_toArray, List.map_cons, List.map_nil, hs, hx, hr]
    exact hK _ _ (h w1 hrow (HB.grown hg hbase (own_base hown)))
  rcases Nat.eq_zero_or_pos (min m xs.length) with h0 | hp
  · obtain ⟨A', c', hv⟩ := own_slice hown
    refine fin W ?_ (by rw [h0, List.take_zero, List.drop_zero, List.nil_append]; exact HO0) (World.grownBy.refl W _)
    rw [h0, hv]
    exact run_copy_none4 W t t' o.type 25 A' A xs.length c' m c ht hinfo h0
  · obtain ⟨ad, hA, hc⟩ := reads_flat4 HR (by omega)
    rcases hown.2 with ⟨_, hx0⟩ | ⟨g, cap, cur, hv, hb, hh, hnc, hcm, hcs, htake⟩
    · omega
    have hkl : (flat4 (ys.take (min m xs.length))).length = min m xs.length * 4 := by rw [flat4_length, List.length_take]; omega
    have hsrc : ∀ j u, (flat4 (ys.take (min m xs.length)))[j]? = some u → W.cell? (ad.add j) = some u := by
      intro j u hu
      refine hc j u ?_
      rw [← hu]
      have e : flat4 ys = flat4 (ys.take (min m xs.length)) ++ flat4 (ys.drop (min m xs.length)) := by rw [← flat4_append, List.take_append_drop]
      rw [e, List.getElem?_append_left]
      rcases Nat.lt_or_ge j (flat4 (ys.take (min m xs.length))).length with h | h
      · exact h
      · rw [List.getElem?_eq_none h] at hu; cases hu
    have h1 : ∀ u ∈ flat4 (ys.take (min m xs.length)), u.oneCell' = true := by
      intro u hu
      obtain ⟨y, _, hy⟩ := List.mem_flatMap.1 hu
      simp only [enc4, List.mem_cons, List.not_mem_nil, or_false] at hy
      rcases hy with rfl | rfl | rfl | rfl <;> rfl
    have hfit : 0 + (flat4 (ys.take (min m xs.length))).length ≤ cur.size := by rw [hkl, hcs]; omega
    have hr := run_copy_cells4 (P := P) W t t' o.type 25 g 0 xs.length cap ad m c (flat4 (ys.take (min m xs.length))) ht hinfo (by rw [hkl]) hsrc
      (fun j hj => by rw [cell_of_row W g _ cur 25 (0, 0) hh]; simp; omega) (fun j _ => blk_frozen hh _) h1
    obtain ⟨cur', h3, h4, h5⟩ := setCells_row (flat4 (ys.take (min m xs.length))) 0 W cur hh hfit
    obtain ⟨s1, s2, s3, s4⟩ := setCells_same g (flat4 (ys.take (min m xs.length))) 0 W
    refine fin _ (by rw [hv, hA, hr]) ⟨hok, flat4 (ys.take (min m xs.length) ++ xs.drop (min m xs.length)), ?_, ?_⟩ ⟨s1, s2, s3, by rw [s4]; exact Nat.le_refl _, fun k _ hk => setCells_far _ _ k (fun he => hk (by rw [hv, he]; simp [Value.ownBlock]))⟩
    · have hln : (ys.take (min m xs.length) ++ xs.drop (min m xs.length)).length = xs.length := by
        rw [List.length_append, List.length_take, List.length_drop]
        omega
      rw [hln]
      refine ⟨by rw [flat4_length, hln]; rfl, .inr ⟨g, cap, cur', hv, hb, h3, hnc, hcm, by rw [h4, hcs]; rfl, ?_⟩⟩
      rw [h5, List.take_zero, List.nil_append, hkl, Nat.zero_add, flat4_append]
      show (flat4 (ys.take (min m xs.length)) ++ cur.toList.drop (min m xs.length * 4)).take (xs.length * 4) = _
      rw [List.take_append, hkl, List.take_of_length_le (by rw [hkl]; omega)]
      congr 1
      rw [flat4_drop, ← ei, ← htake, List.drop_take]
    · have := flat4_reps (w := W.setCells g 0 (flat4 (ys.take (min m xs.length)))) (base := base) (ok := fun k => ok k ∧ some k ≠ v.ownBlock) (ys.take (min m xs.length) ++ xs.drop (min m xs.length)) [] [] (Reps.none _ _)
      rwa [List.nil_append, List.nil_append] at this
def impl_rank.f (k : Nat) (l0 : List S25) : Option (List S25) :=
  if l0.length ≤ 64 then ((impl_rankSize.f k (l0.length : Int)).bind fun n => (if (l0.length : Int) ≤ n then (if n ≤ 64 then ((impl_bitonic.f k n).bind fun b => ((impl_rankBy.f b.1 b.2 (l0 ++ List.replicate (n.toNat - l0.length) (rd_T25 [] 0))).bind fun r => (if l0.length ≤ r.length then some (r.take l0.length) else none))) else none) else none)) else none
theorem impl_rank.mono : ∀ a0 k, LeO (impl_rank.f k a0) (impl_rank.f (k + 1) a0) := by
  intro a0 k
  unfold impl_rank.f
  repeat' first
      | (with_reducible exact impl_rankSize.mono _ _)
      | (with_reducible exact impl_bitonic.mono _ _)
      | (with_reducible exact LeO.refl _)
      | (with_reducible exact LeO.none _)
      | (with_reducible refine LeO.ite ?_ ?_)
      | (with_reducible refine LeO.bind ?_ (fun _ => ?_))
set_option maxHeartbeats 8000000 in
set_option maxRecDepth 100000 in
theorem impl_rank.calls (k : Nat) (A0 : Option Addr) (c0 : Nat) (l0 : List S25) (r : List S25) (w : World) (hr0 : Kd.C k25 w A0 l0.length l0) (hc0 : l0.length ≤ c0) (h : impl_rank.f k l0 = some r) :
    Calls Try.prog 35 #[.slice A0 l0.length c0] w fun e w' => ∃ v0_ : Value, e = .returned (v0_) ∧ Kd.R k25 25 w' w.heap.size (fun _ => True) v0_ r ∧ Below w.heap.size w w' := by
  unfold impl_rank.f at h
  by_cases q1 : l0.length ≤ 64
  · rw [if_pos q1] at h
    obtain ⟨n, hn, h⟩ := Option.bind_eq_some_iff.1 h
    by_cases q2 : (l0.length : Int) ≤ n
    · rw [if_pos q2] at h
      by_cases q3 : n ≤ 64
      · rw [if_pos q3] at h
        obtain ⟨m, rfl⟩ := Int.eq_ofNat_of_zero_le (show 0 ≤ n by omega)
        rw [Int.toNat_natCast] at h
        obtain ⟨⟨b, ws⟩, hb, h⟩ := Option.bind_eq_some_iff.1 h
        obtain ⟨r1, hr1, h⟩ := Option.bind_eq_some_iff.1 h
        by_cases q4 : l0.length ≤ r1.length
        · rw [if_pos q4] at h
          obtain rfl := Option.some.inj h
          clear h
          obtain ⟨ti, hti, _⟩ := Option.map_eq_some_iff.1 info25
          have HI := Aside0.mk hti
          have he : (l0.take (min l0.length (List.replicate m (rd_T25 [] 0)).length) ++ (List.replicate m (rd_T25 [] 0)).drop (min l0.length (List.replicate m (rd_T25 [] 0)).length)) = l0 ++ List.replicate (m - l0.length) (rd_T25 [] 0) := by
            rw [List.length_replicate, Nat.min_eq_left (by omega), List.take_of_length_le (Nat.le_refl _), List.drop_replicate]
          have HE := Aside0.mk he
          have HN := Aside0.mk hn
          have HBI := Aside0.mk hb
          have HRB := Aside0.mk hr1
          have HR0 := Aside0.mk hr0
          have HQ := Aside0.mk (And.intro q1 (And.intro q2 (And.intro q3 q4)))
          clear hn hb hr1 hr0 q1 q2 q3 q4 hti he
          have HB := Aside0.mk (Below.refl w.heap.size w)
          go_enter Try.func35, Try.ntmps35
          go_wp2_with (first | (go_at_call 36; refine (impl_rankSize.calls k _ (m : Int) _ HN.out).mono ?_; rintro e w1 ⟨rfl, ⟨nd, rfl⟩⟩) | ((with_reducible refine gate_dst (N := 7) rfl ?_); refine Kd.R_make k25 _ 25 rfl (N := 7) rfl 31 _ _ rfl (m : Int) rfl rfl Try.underlying31 (.agg #[(.bool false), (.int .i64 0), (.int .i64 0), (.string ⟨#[]⟩)]) 40 info25 rfl (by decide) (by omega) (rd_T25 [] 0) (ok := fun _ => True) (okp := fun _ => True) (mk4 _ _ _ (rd_T25 [] 0)) (fun _ hk => hk) trivial (by have := HQ.out; omega) (by have := HQ.out; omega) (Below.refl _ _) (Nat.le_refl _) ?_; intro v1 w1 ho hb' hg_ hnew_; clear hg_ hnew_; rw [Int.toNat_natCast] at ho; obtain ⟨A1, cap1, e1⟩ := Kd.R_slice ho; rw [List.length_replicate] at e1; subst e1; have HO := Aside0.mk (Kd.R_lower ho (show w.heap.size ≤ _ by simp)); have HB1 := Aside0.mk ((pw_below_drewN HB.out nd).trans (hb'.mono (by simp))); clear ho hb' HB; have HB := HB1; clear HB1) | ((with_reducible refine gate_builtin (b := .copy) (xs := #[.tmp 8, .tmp 9]) rfl ?_); refine R_copy4 (w0 := w) w.heap.size rfl (.tmp 8) (.tmp 9) 31 31 rfl Try.underlying31 (by kernel_rfl) _ (List.replicate m (rd_T25 [] 0)) l0 A0 l0.length c0 (fun _ => True) rfl rfl HO.out (Kd.C_below HR0.out HB.out) HB.out HB.out.size ?_; intro w5 ho5 hb5; rw [HE.out] at ho5; have HB1 := Aside0.mk hb5; have HO1 := Aside0.mk ho5; clear HB HO ho5 hb5; have HB := HB1; have HO := HO1; clear HB1 HO1) | (go_at_call 40; refine (impl_bitonic.calls k (m : Int) b ws _ HBI.out).mono ?_; rintro e w6 ⟨v6, rfl, ho6, hb6⟩; obtain ⟨A2, cap2, e2, hc2, hC2⟩ := Kd.R_reads ho6; subst e2; have HC2 := Aside0.mk hC2; have HB1 := Aside0.mk (HB.out.trans (hb6.mono HB.out.size)); have HO1 := Aside0.mk (Kd.R_below HO.out hb6); clear ho6 hC2 hb6 HB HO; have HB := HB1; have HO := HO1; clear HB1 HO1) | (go_at_call 38; obtain ⟨hm1, hm2, hm3⟩ := Kd.R_reads' HO.out; have hcall := impl_rankBy.calls b A2 cap2 ws A1 cap1 _ r1 _ HC2.out hc2 hm3 (by rw [← hm1]; exact hm2) HRB.out; rw [← hm1] at hcall; refine hcall.mono ?_; clear hm1 hm2 hm3 hcall; rintro e w7 ⟨v7, rfl, ho7, hb7⟩; obtain ⟨A7, cap7, e7, hc7, _⟩ := Kd.R_reads ho7; subst e7; have hcut := cut_to (P := Try.prog) 31 25 .i64 Try.underlying31 HI.out A7 r1.length cap7 (l0.length : Int) (by omega) (by have := HQ.out; omega) hc7; have HO7 := Aside0.mk (Kd.R_lower ho7 HB.out.size); have HB1 := Aside0.mk (HB.out.trans (hb7.mono HB.out.size)); clear ho7 hb7 HB HO; have HB := HB1; clear HB1))
          go_ret
          exact ⟨_, rfl, Kd.R_take HO7.out HQ.out.2.2.2, HB.out⟩
        · rw [if_neg q4] at h; cases h
      · rw [if_neg q3] at h; cases h
    · rw [if_neg q2] at h; cases h
  · rw [if_neg q1] at h; cases h

/-! ### impl_Rank: function 13 -/
def impl_Rank.f (k : Nat) (l0 : List (S25)) : Option ((List (S25))) := (impl_areRecs.f l0).bind fun t352 => (if t352 = true then ((impl_rank.f k l0).bind fun t353 => (some t353)) else (some ([] : List (S25))))
theorem impl_Rank.mono : ∀ a0 k, LeO (impl_Rank.f k a0) (impl_Rank.f (k + 1) a0) := by
  intro a0 k
  unfold impl_Rank.f
  repeat' first
      | (with_reducible exact impl_rank.mono _ _)
      | (with_reducible exact LeO.refl _)
      | (with_reducible exact LeO.none _)
      | (with_reducible refine LeO.ite ?_ ?_)
      | (with_reducible refine LeO.bind ?_ (fun _ => ?_))
      | exact impl_rank.mono _ _
      | exact LeO.none _
      | refine LeO.ite ?_ ?_
      | refine LeO.bind ?_ (fun _ => ?_)
set_option maxHeartbeats 8000000 in
set_option maxRecDepth 100000 in
theorem impl_Rank.calls (k : Nat) (A0 : Option Addr) (c0 : Nat) (l0 : List (S25)) (r : List (S25)) (w : World) (hr0 : Kd.C k25 w A0 l0.length l0) (hc0 : l0.length ≤ c0) (h : impl_Rank.f k l0 = some r) :
    Calls Try.prog 13 #[.slice A0 l0.length c0] w fun e w' => ∃ v0_ : Value, e = .returned (v0_) ∧ Kd.R k25 25 w' w.heap.size (fun _ => True) v0_ r ∧ Below w.heap.size w w' := by
  have HR0 := Aside0.mk hr0
  have HC0 := Aside0.mk hc0
  clear hr0 hc0
  have HB := Aside0.mk (Below.refl w.heap.size w)
  have H : ((impl_areRecs.f l0).bind fun t352 => (if t352 = true then ((impl_rank.f k l0).bind fun t353 => (some t353)) else (some ([] : List (S25))))) = some r := h
  clear h
  replace H := Option.bind_eq_some_iff.mp H
  obtain ⟨t352, A20, H⟩ := H
  replace H : (if t352 = true then ((impl_rank.f k l0).bind fun t353 => (some t353)) else (some ([] : List (S25)))) = some r := H
  have A2 := Aside0.mk A20
  clear A20
  by_cases c3 : t352 = true
  · subst c3
    have H1 : ((impl_rank.f k l0).bind fun t353 => (some t353)) = some r := by rw [if_pos rfl] at H; exact H
    clear H
    have H := H1
    clear H1
    replace H := Option.bind_eq_some_iff.mp H
    obtain ⟨t353, A40, H⟩ := H
    replace H : (some t353) = some r := H
    have A4 := Aside0.mk A40
    clear A40
    obtain rfl := Option.some.inj H
    go_enter Try.func13, Try.ntmps13
    go_wp2_with (first | ((with_reducible refine gate_callee (f := 34) rfl ?_); refine goesL_ (some 4) rfl rfl Try.func34 (by kernel_rfl) rfl #[.slice A0 l0.length c0] rfl (by (try simp only [List.map_toArray, List.map_cons, List.map_nil]); first | done | rfl | (simp only [List.length_drop, List.length_take]; rfl)) ?_; (with_reducible refine (impl_areRecs.calls _ _ l0 true _ ?side1 ?side2 A2.out).mono ?_); (case side1 => repeat (first | exact HR0.out | (with_reducible refine Kd.C_alloc ?_ _) | (with_reducible refine Kd.C_drewN ?_ _) | (with_reducible refine Kd.C_drew ?_))); (case side2 => exact HC0.out); rintro e w5 ⟨rfl, hb⟩; refine ⟨_, rfl, ?_⟩; have n0_ := Aside0.mk (below_step (by repeat (first | (with_reducible first | exact HB.out | apply below_alloc | apply pw_below_drewN | apply below_drew1) | exact HB.out)) hb); clear HB; have HB := n0_; clear n0_; (try clear hb); (try clear hb2); (try clear hk); (try clear hi)) | ((with_reducible refine gate_callee (f := 35) rfl ?_); refine goesL_ (some 7) rfl rfl Try.func35 (by kernel_rfl) rfl #[.slice A0 l0.length c0] rfl (by (try simp only [List.map_toArray, List.map_cons, List.map_nil]); first | done | rfl | (simp only [List.length_drop, List.length_take]; rfl)) ?_; (with_reducible refine (impl_rank.calls k _ _ l0 t353 _ ?side1 ?side2 A4.out).mono ?_); (case side1 => repeat (first | exact (Kd.C_below HR0.out HB.out) | (with_reducible refine Kd.C_alloc ?_ _) | (with_reducible refine Kd.C_drewN ?_ _) | (with_reducible refine Kd.C_drew ?_))); (case side2 => exact HC0.out); rintro e w6 ⟨v354, rfl, ho0, hb⟩; refine ⟨_, rfl, ?_⟩; have n0_ := Aside0.mk (Kd.R_lower ho0 (below_size (by repeat (first | (with_reducible first | exact HB.out | apply below_alloc | apply pw_below_drewN | apply below_drew1) | exact HB.out)))); have n1_ := Aside0.mk (below_step (by repeat (first | (with_reducible first | exact HB.out | apply below_alloc | apply pw_below_drewN | apply below_drew1) | exact HB.out)) hb); clear HB; have HO355 := n0_; have HB := n1_; clear n0_ n1_; (try clear hb); (try clear hb2); (try clear hk); (try clear hi); (try clear ho0)))
    go_ret
    exact ⟨_, by first | rfl | (simp [errW_none, errW_some] <;> rfl) | (simp [*, errW_none, errW_some] <;> rfl), by (with_reducible repeat (first | apply Kd.R_alloc | apply Kd.R_drewN | apply Kd.R_drew)); exact HO355.out, by repeat (first | (with_reducible first | exact HB.out | apply below_alloc | apply pw_below_drewN | apply below_drew1) | exact HB.out)⟩
  · replace c3 := Bool.eq_false_iff.mpr c3
    subst c3
    have H1 : (some ([] : List (S25))) = some r := by rw [if_neg (show ¬ (false = true) by decide)] at H; exact H
    clear H
    have H := H1
    clear H1
    obtain rfl := Option.some.inj H
    go_enter Try.func13, Try.ntmps13
    go_wp2_with (first | ((with_reducible refine gate_callee (f := 34) rfl ?_); refine goesL_ (some 4) rfl rfl Try.func34 (by kernel_rfl) rfl #[.slice A0 l0.length c0] rfl (by (try simp only [List.map_toArray, List.map_cons, List.map_nil]); first | done | rfl | (simp only [List.length_drop, List.length_take]; rfl)) ?_; (with_reducible refine (impl_areRecs.calls _ _ l0 false _ ?side1 ?side2 A2.out).mono ?_); (case side1 => repeat (first | exact HR0.out | (with_reducible refine Kd.C_alloc ?_ _) | (with_reducible refine Kd.C_drewN ?_ _) | (with_reducible refine Kd.C_drew ?_))); (case side2 => exact HC0.out); rintro e w7 ⟨rfl, hb⟩; refine ⟨_, rfl, ?_⟩; have n0_ := Aside0.mk (below_step (by repeat (first | (with_reducible first | exact HB.out | apply below_alloc | apply pw_below_drewN | apply below_drew1) | exact HB.out)) hb); clear HB; have HB := n0_; clear n0_; (try clear hb); (try clear hb2); (try clear hk); (try clear hi)))
    go_ret
    exact ⟨_, by first | rfl | (simp [errW_none, errW_some] <;> rfl) | (simp [*, errW_none, errW_some] <;> rfl), by first | exact Kd.R_nil _ _ _ _ _ | exact Kd.N_nil _ _ _ _ _ | exact Kd.V_nil _ _ _ _ _ | exact Kd.Q_nil _ _ _ _ _ | exact Kd.S_nil _ _ _ _ _, by repeat (first | (with_reducible first | exact HB.out | apply below_alloc | apply pw_below_drewN | apply below_drew1) | exact HB.out)⟩

end Go.Proofs.Ytncnmgklnnpeeaa.PFnRanked

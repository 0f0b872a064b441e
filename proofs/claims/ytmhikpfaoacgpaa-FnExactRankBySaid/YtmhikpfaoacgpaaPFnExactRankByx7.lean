-- Laid by a program of this session: what the print of the kit writes, and contracts of the session where the print takes no function. Lean checks it.
import Derived.Test.YtmhikpfaoacgpaaPFnExactRankByx0
import Derived.Test.YtmhikpfaoacgpaaPFnExactRankByx4
import Derived.Test.YtmhikpfaoacgpaaPFnExactRankByx5
import Derived.Test.YtmhikpfaoacgpaaPFnExactRankByx6
namespace Go.Proofs.Ytmhikpfaoacgpaa.PFnExactRankBy
open Go.RowKit Go.Proofs.YtmhikpfaoacgpaaW.PrintWords Go.Proofs.YtmhikpfaoacgpaaW.PrintLast Go.Proofs.YtmhikpfaoacgpaaW.PrintMore
attribute [local go_sem] max2_int min2_int max_two min_two max_three min_three max_four min_four   -- for this text's walks alone
set_option linter.unusedVariables false
set_option linter.unusedSimpArgs false

/-! ### spec_RankBy: function 48 -/
mutual
def spec_RankBy.j0 : Nat → List (S26) → Bool → Int → List (S87) → Option ((List (S26)))
  | 0, _, _, _, _ => none
  | k + 1, x1, x24, x156000, x156001 => if x24 = true then (some ([] : List (S26))) else ((some (([] : List (S26)) : List (S26))).bind fun y158 => (if y158.length + x1.length < 3518437208883 then (spec_RankBy.l0 k (y158 ++ x1) 0 x156000 x156001) else (none)))
def spec_RankBy.l0 : Nat → List (S26) → Int → Int → List (S87) → Option ((List (S26)))
  | 0, _, _, _, _ => none
  | k + 1, x5, x6, x156000, x156001 => if x6 < (x156001.length : Int) then (if 0 ≤ x6 then (if 0 ≤ ((rd_T87 x156001 x6).f0) then (if ((rd_T87 x156001 x6).f0) < (x5.length : Int) then (if 0 ≤ ((rd_T87 x156001 x6).f1) then (if ((rd_T87 x156001 x6).f1) < (x5.length : Int) then ((spec_RecPair.f k ((rd_T26 x5 ((rd_T87 x156001 x6).f0)).f0) ((rd_T26 x5 ((rd_T87 x156001 x6).f0)).f1) ((rd_T26 x5 ((rd_T87 x156001 x6).f0)).f2) ((rd_T26 x5 ((rd_T87 x156001 x6).f0)).f3) ((rd_T26 x5 ((rd_T87 x156001 x6).f1)).f0) ((rd_T26 x5 ((rd_T87 x156001 x6).f1)).f1) ((rd_T26 x5 ((rd_T87 x156001 x6).f1)).f2) ((rd_T26 x5 ((rd_T87 x156001 x6).f1)).f3)).bind fun bt168 => (spec_RankBy.l0 k ((x5.set (((rd_T87 x156001 x6).f0) : Int).toNat (⟨bt168.1, bt168.2.1, bt168.2.2.1, bt168.2.2.2.1⟩ : S26)).set (((rd_T87 x156001 x6).f1) : Int).toNat (⟨bt168.2.2.2.2.1, bt168.2.2.2.2.2.1, bt168.2.2.2.2.2.2.1, bt168.2.2.2.2.2.2.2⟩ : S26)) (wrap64 (x6 + 1)) x156000 x156001)) else (none)) else (none)) else (none)) else (none)) else (none)) else (some x5)
end
def spec_RankBy.f (k : Nat) (a0_0 : Int) (l0_1 : List (S87)) (l1 : List (S26)) : Option ((List (S26))) := (spec_NetOk.f k a0_0 l0_1).bind fun t156 => (if t156 = true then ((spec_RecsOk.f k l1).bind fun t157 => (if t157 = true then (spec_RankBy.j0 k l1 ((l1.length : Int) != a0_0) a0_0 l0_1) else (spec_RankBy.j0 k l1 true a0_0 l0_1))) else (spec_RankBy.j0 k l1 true a0_0 l0_1))
theorem spec_RankBy.mono_l : ∀ k, (∀ y0 y1 y2 y3, LeO (spec_RankBy.j0 k y0 y1 y2 y3) (spec_RankBy.j0 (k + 1) y0 y1 y2 y3)) ∧ (∀ y0 y1 y2 y3, LeO (spec_RankBy.l0 k y0 y1 y2 y3) (spec_RankBy.l0 (k + 1) y0 y1 y2 y3))
  | 0 => ⟨fun _ _ _ _ r h => by simp [spec_RankBy.j0] at h, fun _ _ _ _ r h => by simp [spec_RankBy.l0] at h⟩
  | k + 1 => by
    obtain ⟨ih0, ih1⟩ := spec_RankBy.mono_l k
    refine ⟨?_, ?_⟩
    · intro y0 y1 y2 y3
      unfold spec_RankBy.j0
      repeat' first
      | (with_reducible exact ih0 _ _ _ _)
      | (with_reducible exact ih1 _ _ _ _)
      | (with_reducible exact spec_NetOk.mono _ _ _)
      | (with_reducible exact spec_RecPair.mono _ _ _ _ _ _ _ _ _)
      | (with_reducible exact spec_RecsOk.mono _ _)
      | (with_reducible exact LeO.refl _)
      | (with_reducible exact LeO.none _)
      | (with_reducible refine LeO.ite ?_ ?_)
      | (with_reducible refine LeO.bind ?_ (fun _ => ?_))
      | exact ih0 _ _ _ _
      | exact ih1 _ _ _ _
      | exact spec_NetOk.mono _ _ _
      | exact spec_RecPair.mono _ _ _ _ _ _ _ _ _
      | exact spec_RecsOk.mono _ _
      | exact LeO.none _
      | refine LeO.ite ?_ ?_
      | refine LeO.bind ?_ (fun _ => ?_)
    · intro y0 y1 y2 y3
      unfold spec_RankBy.l0
      repeat' first
      | (with_reducible exact ih0 _ _ _ _)
      | (with_reducible exact ih1 _ _ _ _)
      | (with_reducible exact spec_NetOk.mono _ _ _)
      | (with_reducible exact spec_RecPair.mono _ _ _ _ _ _ _ _ _)
      | (with_reducible exact spec_RecsOk.mono _ _)
      | (with_reducible exact LeO.refl _)
      | (with_reducible exact LeO.none _)
      | (with_reducible refine LeO.ite ?_ ?_)
      | (with_reducible refine LeO.bind ?_ (fun _ => ?_))
      | exact ih0 _ _ _ _
      | exact ih1 _ _ _ _
      | exact spec_NetOk.mono _ _ _
      | exact spec_RecPair.mono _ _ _ _ _ _ _ _ _
      | exact spec_RecsOk.mono _ _
      | exact LeO.none _
      | refine LeO.ite ?_ ?_
      | refine LeO.bind ?_ (fun _ => ?_)
theorem spec_RankBy.mono : ∀ a0 a1 a2 k, LeO (spec_RankBy.f k a0 a1 a2) (spec_RankBy.f (k + 1) a0 a1 a2) := by
  intro a0 a1 a2 k
  obtain ⟨ih0, ih1⟩ := spec_RankBy.mono_l k
  unfold spec_RankBy.f
  repeat' first
      | (with_reducible exact ih0 _ _ _ _)
      | (with_reducible exact ih1 _ _ _ _)
      | (with_reducible exact spec_NetOk.mono _ _ _)
      | (with_reducible exact spec_RecPair.mono _ _ _ _ _ _ _ _ _)
      | (with_reducible exact spec_RecsOk.mono _ _)
      | (with_reducible exact LeO.refl _)
      | (with_reducible exact LeO.none _)
      | (with_reducible refine LeO.ite ?_ ?_)
      | (with_reducible refine LeO.bind ?_ (fun _ => ?_))
      | exact ih0 _ _ _ _
      | exact ih1 _ _ _ _
      | exact spec_NetOk.mono _ _ _
      | exact spec_RecPair.mono _ _ _ _ _ _ _ _ _
      | exact spec_RecsOk.mono _ _
      | exact LeO.none _
      | refine LeO.ite ?_ ?_
      | refine LeO.bind ?_ (fun _ => ?_)
def spec_RankBy.T8 : Bool × List (List Nat × List Nat) := (true, [([], []), ([], []), ([1], [1]), ([0, 2], [0, 2]), ([3], [3]), ([], []), ([], []), ([6], [6]), ([5, 7], [5, 7]), ([8], [8]), ([4, 9], [4, 9]), ([10], [10]), ([11], [11]), ([11], [11]), ([], []), ([], []), ([14, 12, 10, 0, 1, 2, 3, 4, 5, 6, 7, 8, 9, 10, 11, 12, 14, 15], [12, 14]), ([15, 13, 16, 0, 1, 2, 3, 4, 5, 6, 7, 8, 9, 10, 11, 12, 13, 14, 15, 16], [13, 15])])
def spec_RankBy.B8 : List Nat := [0, 0, 2, 7, 15, 0, 0, 64, 224, 480, 1023, 2047, 4095, 4095, 0, 0, 57343, 131071]
theorem spec_RankBy.tab8 : rtab .any (opsOf Try.f48 8) = spec_RankBy.T8 := by kernel_rfl
theorem spec_RankBy.bits8 : waitsOk spec_RankBy.T8.2 spec_RankBy.B8 = true := by kernel_rfl
set_option maxHeartbeats 8000000 in
set_option maxRecDepth 100000 in
theorem spec_RankBy.calls (k : Nat) (a0_0 : Int) (A0_1 : Option Addr) (c0_1 : Nat) (l0_1 : List (S87)) (A1 : Option Addr) (c1 : Nat) (l1 : List (S26)) (r : List (S26)) (w : World) (hr0_1 : Kd.C k87 w A0_1 l0_1.length l0_1) (hc0_1 : l0_1.length ≤ c0_1) (hr1 : Kd.C k26 w A1 l1.length l1) (hc1 : l1.length ≤ c1) (h : spec_RankBy.f k a0_0 l0_1 l1 = some r) :
    Calls Try.prog 48 #[.agg #[.int .i64 a0_0, .slice A0_1 l0_1.length c0_1], .slice A1 l1.length c1] w fun e w' => ∃ v0_ : Value, e = .returned (v0_) ∧ Kd.R k26 26 w' w.heap.size (fun _ => True) v0_ r ∧ Below w.heap.size w w' := by
  have hu59 := Try.underlying59
  have hu87 := Try.underlying87
  have hu26 := Try.underlying26
  have HR0_1 := Aside0.mk hr0_1
  have HC0_1 := Aside0.mk hc0_1
  clear hr0_1 hc0_1
  have HR1 := Aside0.mk hr1
  have HC1 := Aside0.mk hc1
  clear hr1 hc1
  have HB := Aside0.mk (Below.refl w.heap.size w)
  have H : ((spec_NetOk.f k a0_0 l0_1).bind fun t156 => (if t156 = true then ((spec_RecsOk.f k l1).bind fun t157 => (if t157 = true then (spec_RankBy.j0 k l1 ((l1.length : Int) != a0_0) a0_0 l0_1) else (spec_RankBy.j0 k l1 true a0_0 l0_1))) else (spec_RankBy.j0 k l1 true a0_0 l0_1))) = some r := h
  clear h
  have HC3 := Aside0.mk H
  clear H
  go_enter Try.func48, Try.ntmps48
  go_upto_region 1 with (first | ((with_reducible refine gate_dst (N := 2) rfl ?_); (try (refine gate_guard (by rfl) ?_; dsimp only)); refine box_event ?hg (N := 2) ?hd (cs := #[.int .i64 a0_0, .slice A0_1 l0_1.length c0_1]) (t := 59) ?hr ?_; (case hd => rfl); (case hg => rfl); (case hr => first | (go_simp; done) | (go_simp; rfl)); intro gb155 hg w4 hbox hb; have n0_ := Aside0.mk (below_step (by repeat (first | (with_reducible first | exact HB.out | apply below_alloc | apply pw_below_drewN | apply below_drew1) | exact HB.out)) hb); have n1_ := Aside0.mk (hbox); have n2_ := Aside0.mk ((by rw [hg]; exact (below_size (by repeat (first | (with_reducible first | exact HB.out | apply below_alloc | apply pw_below_drewN | apply below_drew1) | exact HB.out))) : w.heap.size ≤ gb155)); have n3_ := Aside0.mk ((by rw [hg]; exact (below_size (by repeat (first | (with_reducible first | exact HB.out | apply below_alloc | apply pw_below_drewN | apply below_drew1) | exact HB.out))) : w.heap.size ≤ gb155)); clear HB; have HB := n0_; have BK155 := n1_; have GW155 := n2_; have GE155 := n3_; clear n0_ n1_ n2_ n3_; clear hb hbox hg))
  (try simp only [Act.put, List.setIfInBounds_toArray, List.set_cons_zero, List.set_cons_succ])
  go_cut [24] (fun v24 wc => ∃ (kq : Nat) (x24_2 : Bool), v24 = .bool x24_2 ∧ Aside0 (spec_RankBy.j0 kq l1 x24_2 a0_0 l0_1 = some r) ∧ Aside0 (kq ≤ k) ∧ Aside0 (wc.heap[gb155]? = some (.cells #[.int .i64 a0_0, (.slice A0_1 l0_1.length c0_1)] 59 (0, 0))) ∧ Aside0 (Below w.heap.size w wc))
  case first =>
    have H := HC3.out
    clear HC3
    replace H := Option.bind_eq_some_iff.mp H
    obtain ⟨t156, A50, H⟩ := H
    replace H : (if t156 = true then ((spec_RecsOk.f k l1).bind fun t157 => (if t157 = true then (spec_RankBy.j0 k l1 ((l1.length : Int) != a0_0) a0_0 l0_1) else (spec_RankBy.j0 k l1 true a0_0 l0_1))) else (spec_RankBy.j0 k l1 true a0_0 l0_1)) = some r := H
    have A5 := Aside0.mk A50
    clear A50
    by_cases c6 : t156 = true
    · subst c6
      have H1 : ((spec_RecsOk.f k l1).bind fun t157 => (if t157 = true then (spec_RankBy.j0 k l1 ((l1.length : Int) != a0_0) a0_0 l0_1) else (spec_RankBy.j0 k l1 true a0_0 l0_1))) = some r := by rw [if_pos rfl] at H; exact H
      clear H
      have H := H1
      clear H1
      replace H := Option.bind_eq_some_iff.mp H
      obtain ⟨t157, A70, H⟩ := H
      replace H : (if t157 = true then (spec_RankBy.j0 k l1 ((l1.length : Int) != a0_0) a0_0 l0_1) else (spec_RankBy.j0 k l1 true a0_0 l0_1)) = some r := H
      have A7 := Aside0.mk A70
      clear A70
      by_cases c8 : t157 = true
      · subst c8
        have H1 : (spec_RankBy.j0 k l1 ((l1.length : Int) != a0_0) a0_0 l0_1) = some r := by rw [if_pos rfl] at H; exact H
        clear H
        have H := H1
        clear H1
        have H' := Aside0.mk H
        clear H
        have hcz9_0 : w4.cell? ⟨gb155, 0, none⟩ = some (.int .i64 a0_0) := (blk_cell BK155.out 0).trans rfl
        have hcz9_1 : w4.cell? ⟨gb155, 1, none⟩ = some (.slice A0_1 l0_1.length c0_1) := (blk_cell BK155.out 1).trans rfl
        have hfz9_0 := blk_frozen BK155.out 0
        have hfz9_1 := blk_frozen BK155.out 1
        go_wp2_with (first | ((with_reducible refine gate_callee (f := 82) rfl ?_); refine goesL_ (some 11) rfl rfl Try.func82 (by kernel_rfl) rfl #[.agg #[.int .i64 a0_0, .slice A0_1 l0_1.length c0_1]] rfl (by (try simp only [List.map_toArray, List.map_cons, List.map_nil]); first | done | rfl | (simp only [List.length_drop, List.length_take]; rfl)) ?_; (with_reducible refine (spec_NetOk.calls k a0_0 _ _ l0_1 true _ ?side1 ?side2 A5.out).mono ?_); (case side1 => repeat (first | exact (Kd.C_below HR0_1.out HB.out) | (with_reducible refine Kd.C_alloc ?_ _) | (with_reducible refine Kd.C_drewN ?_ _) | (with_reducible refine Kd.C_drew ?_))); (case side2 => exact HC0_1.out); rintro e w10 ⟨rfl, hb⟩; refine ⟨_, rfl, ?_⟩; have n0_ := Aside0.mk (blk_below (g := gb155) (o := .cells #[.int .i64 a0_0, .slice A0_1 l0_1.length c0_1] 59 (0, 0)) (by (with_reducible repeat (first | refine blk_drewN ?_ _ | refine blk_drew ?_ | refine blk_alloc ?_ _)); exact BK155.out) hb); have n1_ := Aside0.mk (below_step (by repeat (first | (with_reducible first | exact HB.out | apply below_alloc | apply pw_below_drewN | apply below_drew1 | refine below_set ?_ GE155.out) | exact HB.out)) hb); clear BK155; clear HB; have BK155 := n0_; have HB := n1_; clear n0_ n1_; (try clear hb); (try clear hb2); (try clear hk); (try clear hi)) | (go_at_call 29; (with_reducible refine (spec_RecsOk.calls k _ _ l1 true _ ?side1 ?side2 A7.out).mono ?_); (case side1 => repeat (first | exact (Kd.C_below HR1.out HB.out) | (with_reducible refine Kd.C_alloc ?_ _) | (with_reducible refine Kd.C_drewN ?_ _) | (with_reducible refine Kd.C_drew ?_))); (case side2 => exact HC1.out); rintro e w11 ⟨rfl, hb⟩; have n0_ := Aside0.mk (blk_below (g := gb155) (o := .cells #[.int .i64 a0_0, .slice A0_1 l0_1.length c0_1] 59 (0, 0)) (by (with_reducible repeat (first | refine blk_drewN ?_ _ | refine blk_drew ?_ | refine blk_alloc ?_ _)); exact BK155.out) hb); have n1_ := Aside0.mk (below_step (by repeat (first | (with_reducible first | exact HB.out | apply below_alloc | apply pw_below_drewN | apply below_drew1 | refine below_set ?_ GE155.out) | exact HB.out)) hb); clear BK155; clear HB; have BK155 := n0_; have HB := n1_; clear n0_ n1_; (try clear hb); (try clear hb2); (try clear hk); (try clear hi); have hcz12_0 : w11.cell? ⟨gb155, 0, none⟩ = some (.int .i64 a0_0) := (blk_cell BK155.out 0).trans rfl; have hcz12_1 : w11.cell? ⟨gb155, 1, none⟩ = some (.slice A0_1 l0_1.length c0_1) := (blk_cell BK155.out 1).trans rfl; have hfz12_0 := blk_frozen BK155.out 0; have hfz12_1 := blk_frozen BK155.out 1))
        go_meet
        case rel => exact ⟨_, (((l1.length : Int) != a0_0)), (by first | rfl | (simp; done) | (simp [*]; done)), H', ⟨by first | omega | exact Nat.le_refl _⟩, ⟨by (with_reducible repeat (first | refine blk_drewN ?_ _ | refine blk_drew ?_ | refine blk_alloc ?_ _)); exact BK155.out⟩, ⟨by repeat (first | (with_reducible first | exact HB.out | apply below_alloc | apply pw_below_drewN | apply below_drew1 | refine below_set ?_ GE155.out) | exact HB.out)⟩⟩
      · replace c8 := Bool.eq_false_iff.mpr c8
        subst c8
        have H1 : (spec_RankBy.j0 k l1 true a0_0 l0_1) = some r := by rw [if_neg (show ¬ (false = true) by decide)] at H; exact H
        clear H
        have H := H1
        clear H1
        have H' := Aside0.mk H
        clear H
        have hcz13_0 : w4.cell? ⟨gb155, 0, none⟩ = some (.int .i64 a0_0) := (blk_cell BK155.out 0).trans rfl
        have hcz13_1 : w4.cell? ⟨gb155, 1, none⟩ = some (.slice A0_1 l0_1.length c0_1) := (blk_cell BK155.out 1).trans rfl
        have hfz13_0 := blk_frozen BK155.out 0
        have hfz13_1 := blk_frozen BK155.out 1
        go_wp2_with (first | ((with_reducible refine gate_callee (f := 82) rfl ?_); refine goesL_ (some 11) rfl rfl Try.func82 (by kernel_rfl) rfl #[.agg #[.int .i64 a0_0, .slice A0_1 l0_1.length c0_1]] rfl (by (try simp only [List.map_toArray, List.map_cons, List.map_nil]); first | done | rfl | (simp only [List.length_drop, List.length_take]; rfl)) ?_; (with_reducible refine (spec_NetOk.calls k a0_0 _ _ l0_1 true _ ?side1 ?side2 A5.out).mono ?_); (case side1 => repeat (first | exact (Kd.C_below HR0_1.out HB.out) | (with_reducible refine Kd.C_alloc ?_ _) | (with_reducible refine Kd.C_drewN ?_ _) | (with_reducible refine Kd.C_drew ?_))); (case side2 => exact HC0_1.out); rintro e w14 ⟨rfl, hb⟩; refine ⟨_, rfl, ?_⟩; have n0_ := Aside0.mk (blk_below (g := gb155) (o := .cells #[.int .i64 a0_0, .slice A0_1 l0_1.length c0_1] 59 (0, 0)) (by (with_reducible repeat (first | refine blk_drewN ?_ _ | refine blk_drew ?_ | refine blk_alloc ?_ _)); exact BK155.out) hb); have n1_ := Aside0.mk (below_step (by repeat (first | (with_reducible first | exact HB.out | apply below_alloc | apply pw_below_drewN | apply below_drew1 | refine below_set ?_ GE155.out) | exact HB.out)) hb); clear BK155; clear HB; have BK155 := n0_; have HB := n1_; clear n0_ n1_; (try clear hb); (try clear hb2); (try clear hk); (try clear hi)) | (go_at_call 29; (with_reducible refine (spec_RecsOk.calls k _ _ l1 false _ ?side1 ?side2 A7.out).mono ?_); (case side1 => repeat (first | exact (Kd.C_below HR1.out HB.out) | (with_reducible refine Kd.C_alloc ?_ _) | (with_reducible refine Kd.C_drewN ?_ _) | (with_reducible refine Kd.C_drew ?_))); (case side2 => exact HC1.out); rintro e w15 ⟨rfl, hb⟩; have n0_ := Aside0.mk (blk_below (g := gb155) (o := .cells #[.int .i64 a0_0, .slice A0_1 l0_1.length c0_1] 59 (0, 0)) (by (with_reducible repeat (first | refine blk_drewN ?_ _ | refine blk_drew ?_ | refine blk_alloc ?_ _)); exact BK155.out) hb); have n1_ := Aside0.mk (below_step (by repeat (first | (with_reducible first | exact HB.out | apply below_alloc | apply pw_below_drewN | apply below_drew1 | refine below_set ?_ GE155.out) | exact HB.out)) hb); clear BK155; clear HB; have BK155 := n0_; have HB := n1_; clear n0_ n1_; (try clear hb); (try clear hb2); (try clear hk); (try clear hi)))
        go_meet
        case rel => exact ⟨_, (true), (by first | rfl | (simp; done) | (simp [*]; done)), H', ⟨by first | omega | exact Nat.le_refl _⟩, ⟨by (with_reducible repeat (first | refine blk_drewN ?_ _ | refine blk_drew ?_ | refine blk_alloc ?_ _)); exact BK155.out⟩, ⟨by repeat (first | (with_reducible first | exact HB.out | apply below_alloc | apply pw_below_drewN | apply below_drew1 | refine below_set ?_ GE155.out) | exact HB.out)⟩⟩
    · replace c6 := Bool.eq_false_iff.mpr c6
      subst c6
      have H1 : (spec_RankBy.j0 k l1 true a0_0 l0_1) = some r := by rw [if_neg (show ¬ (false = true) by decide)] at H; exact H
      clear H
      have H := H1
      clear H1
      have H' := Aside0.mk H
      clear H
      have hcz16_0 : w4.cell? ⟨gb155, 0, none⟩ = some (.int .i64 a0_0) := (blk_cell BK155.out 0).trans rfl
      have hcz16_1 : w4.cell? ⟨gb155, 1, none⟩ = some (.slice A0_1 l0_1.length c0_1) := (blk_cell BK155.out 1).trans rfl
      have hfz16_0 := blk_frozen BK155.out 0
      have hfz16_1 := blk_frozen BK155.out 1
      go_wp2_with (first | ((with_reducible refine gate_callee (f := 82) rfl ?_); refine goesL_ (some 11) rfl rfl Try.func82 (by kernel_rfl) rfl #[.agg #[.int .i64 a0_0, .slice A0_1 l0_1.length c0_1]] rfl (by (try simp only [List.map_toArray, List.map_cons, List.map_nil]); first | done | rfl | (simp only [List.length_drop, List.length_take]; rfl)) ?_; (with_reducible refine (spec_NetOk.calls k a0_0 _ _ l0_1 false _ ?side1 ?side2 A5.out).mono ?_); (case side1 => repeat (first | exact (Kd.C_below HR0_1.out HB.out) | (with_reducible refine Kd.C_alloc ?_ _) | (with_reducible refine Kd.C_drewN ?_ _) | (with_reducible refine Kd.C_drew ?_))); (case side2 => exact HC0_1.out); rintro e w17 ⟨rfl, hb⟩; refine ⟨_, rfl, ?_⟩; have n0_ := Aside0.mk (blk_below (g := gb155) (o := .cells #[.int .i64 a0_0, .slice A0_1 l0_1.length c0_1] 59 (0, 0)) (by (with_reducible repeat (first | refine blk_drewN ?_ _ | refine blk_drew ?_ | refine blk_alloc ?_ _)); exact BK155.out) hb); have n1_ := Aside0.mk (below_step (by repeat (first | (with_reducible first | exact HB.out | apply below_alloc | apply pw_below_drewN | apply below_drew1 | refine below_set ?_ GE155.out) | exact HB.out)) hb); clear BK155; clear HB; have BK155 := n0_; have HB := n1_; clear n0_ n1_; (try clear hb); (try clear hb2); (try clear hk); (try clear hi)))
      go_meet
      case rel => exact ⟨_, (true), (by first | rfl | (simp; done) | (simp [*]; done)), H', ⟨by first | omega | exact Nat.le_refl _⟩, ⟨by (with_reducible repeat (first | refine blk_drewN ?_ _ | refine blk_drew ?_ | refine blk_alloc ?_ _)); exact BK155.out⟩, ⟨by repeat (first | (with_reducible first | exact HB.out | apply below_alloc | apply pw_below_drewN | apply below_drew1 | refine below_set ?_ GE155.out) | exact HB.out)⟩⟩
  case rest =>
    clear HC3
    try clear c1
    try clear p2
    try clear c4
    try clear c6
    try clear c8
    try clear hcz12_0
    try clear hcz12_1
    try clear hcz13_0
    try clear hcz13_1
    try clear hcz16_0
    try clear hcz16_1
    try clear hcz9_0
    try clear hcz9_1
    try clear hfz12_0
    try clear hfz12_1
    try clear hfz13_0
    try clear hfz13_1
    try clear hfz16_0
    try clear hfz16_1
    try clear hfz9_0
    try clear hfz9_1
    obtain ⟨kq, x24_2, rfl, HA, HJ2, BK155, HB⟩ := hcut
    cases kq with
    | zero => exact absurd HA.out (by simp [spec_RankBy.j0])
    | succ kj2 =>
      have H := HA.out
      clear HA
      simp only [spec_RankBy.j0] at H
      by_cases c18 : x24_2 = true
      · subst c18
        have H1 : (some ([] : List (S26))) = some r := by rw [if_pos rfl] at H; exact H
        clear H
        have H := H1
        clear H1
        obtain rfl := Option.some.inj H
        go_wp2
        go_ret
        exact ⟨_, by first | rfl | (simp [errW_none, errW_some] <;> rfl) | (simp [*, errW_none, errW_some] <;> rfl), by first | exact Kd.R_nil _ _ _ _ _ | exact Kd.N_nil _ _ _ _ _ | exact Kd.V_nil _ _ _ _ _ | exact Kd.Q_nil _ _ _ _ _ | exact Kd.S_nil _ _ _ _ _, by repeat (first | (with_reducible first | exact HB.out | apply below_alloc | apply pw_below_drewN | apply below_drew1 | refine below_set ?_ GE155.out) | exact HB.out)⟩
      · replace c18 := Bool.eq_false_iff.mpr c18
        subst c18
        have H1 : ((some (([] : List (S26)) : List (S26))).bind fun y158 => (if y158.length + l1.length < 3518437208883 then (spec_RankBy.l0 kj2 (y158 ++ l1) 0 a0_0 l0_1) else (none))) = some r := by rw [if_neg (show ¬ (false = true) by decide)] at H; exact H
        clear H
        have H := H1
        clear H1
        obtain ⟨y158, hy158⟩ : ∃ y_ : List (S26), y_ = (([] : List (S26))) := ⟨_, rfl⟩
        replace H : (if y158.length + l1.length < 3518437208883 then (spec_RankBy.l0 kj2 (y158 ++ l1) 0 a0_0 l0_1) else (none)) = some r := by first | (rw [hy158]; with_reducible exact H) | (have H2_ := (Option.bind_some _ _).symm.trans H; rw [hy158]; with_reducible exact H2_) | (have H2_ := (Option.bind_some _ _).symm.trans H; with_reducible exact H2_) | with_reducible exact H | (rw [hy158]; exact H) | exact H
        have Ny158 := Aside0.mk hy158
        clear hy158
        by_cases c19 : y158.length + l1.length < 3518437208883
        · rw [if_pos c19] at H
          have LMc19 := Aside0.mk c19
          clear c19
          obtain ⟨y161, hy161⟩ : ∃ y_ : List (S26), y_ = (y158 ++ l1) := ⟨_, rfl⟩
          replace H : (spec_RankBy.l0 kj2 y161 0 a0_0 l0_1) = some r := by first | (rw [hy161]; with_reducible exact H) | (have H2_ := (Option.bind_some _ _).symm.trans H; rw [hy161]; with_reducible exact H2_) | (have H2_ := (Option.bind_some _ _).symm.trans H; with_reducible exact H2_) | with_reducible exact H | (rw [hy161]; exact H) | exact H
          have Ny161 := Aside0.mk hy161
          clear hy161
          have H' := Aside0.mk H
          clear H
          go_wp2_with (first | ((with_reducible refine gate_dst (N := 25) rfl ?_); (try (refine gate_guard (by rfl) ?_; dsimp only)); refine Kd.R_lit k26 _ 26 ?hg (N := 25) ?hd (xs := ([] : List (S26))) (inner := []) (ok := fun _ => True) (okp := fun _ => True) ?hr ?hp (fun _ hk => hk) trivial (Below.refl _ _) (Nat.le_refl _) (by simp) ?_; (case hd => rfl); (case hg => rfl); (case hr => first | (go_simp; done) | (go_simp; rfl)); (case hp => exact (Reps.none _ _)); intro v159 w20 ho21 hb hg_ hnew_; clear hg_ hnew_; (first | rw [← Ny158.out] at ho21 | (simp only [Int.reduceToNat] at ho21; rw [← Ny158.out] at ho21)); have n0_ := Aside0.mk (Kd.R_lower ho21 (below_size (by repeat (first | (with_reducible first | exact HB.out | apply below_alloc | apply pw_below_drewN | apply below_drew1 | refine below_set ?_ GE155.out) | exact HB.out)))); have n1_ := Aside0.mk (blk_below (g := gb155) (o := .cells #[.int .i64 a0_0, .slice A0_1 l0_1.length c0_1] 59 (0, 0)) (by (with_reducible repeat (first | refine blk_drewN ?_ _ | refine blk_drew ?_ | refine blk_alloc ?_ _)); exact BK155.out) hb); have n2_ := Aside0.mk (below_step (by repeat (first | (with_reducible first | exact HB.out | apply below_alloc | apply pw_below_drewN | apply below_drew1 | refine below_set ?_ GE155.out) | exact HB.out)) hb); clear BK155; clear HB; have HO160 := n0_; have BK155 := n1_; have HB := n2_; clear n0_ n1_ n2_; clear hb ho21) | ((with_reducible refine gate_builtin (b := .append) (xs := #[.tmp 25, .tmp 26]) rfl ?_); (try (refine gate_guard (by rfl) ?_; dsimp only)); at_builtin; refine Kd.R_append_rows k26 (w0 := w) w.heap.size rfl (.tmp 25) (.tmp 26) 38 26 (.agg #[(.bool false), (.int .i64 0), (.int .i64 0), (.string ⟨#[]⟩)]) 40 rfl Try.underlying38 info26 rfl (by decide) (by omega) v159 y158 l1 _ _ _ (fun _ => True) (fun _ => False) rfl rfl ?aO ?aR (fun _ _ h => h) (fun _ h => h.elim) ?aF ?aB ?aS ?aL ?_; (case aR => repeat (first | exact (Kd.C_below HR1.out HB.out) | (with_reducible refine Kd.C_alloc ?_ _) | (with_reducible refine Kd.C_drewN ?_ _) | (with_reducible refine Kd.C_drew ?_))); (case aB => exact (by repeat (first | (with_reducible first | exact HB.out | apply below_alloc | apply pw_below_drewN | apply below_drew1 | refine below_set ?_ GE155.out) | exact HB.out))); (case aF => exact (fun _ _ => trivial)); (case aO => exact (by (with_reducible repeat (first | apply Kd.R_alloc | apply Kd.R_drewN | apply Kd.R_drew)); exact HO160.out)); (case aS => exact (below_size (by repeat (first | (with_reducible first | exact HB.out | apply below_alloc | apply pw_below_drewN | apply below_drew1 | refine below_set ?_ GE155.out) | exact HB.out)))); (case aL => have := LMc19.out; omega); intro v162 w22 ho hb hg hat; rw [← Ny161.out] at ho; have n0_ := Aside0.mk (blk_grown (g := gb155) (o := .cells #[.int .i64 a0_0, .slice A0_1 l0_1.length c0_1] 59 (0, 0)) (by (with_reducible repeat (first | refine blk_drewN ?_ _ | refine blk_drew ?_ | refine blk_alloc ?_ _)); exact BK155.out) hg (Kd.R_ne HO160.out BK155.out (by decide))); have n1_ := Aside0.mk (hb); have n2_ := Aside0.mk (ho); clear BK155; clear HB; clear HO160; have BK155 := n0_; have HB := n1_; have HO163 := n2_; clear n0_ n1_ n2_; clear ho hb hg hat))
          go_loopg [6] kj2 (fun kq v6 w' => ∃ (x5_2 : List (S26)) (x6_2 : Int), v6 = .int .i64 x6_2 ∧ Aside0 (spec_RankBy.l0 kq x5_2 x6_2 a0_0 l0_1 = some r) ∧ Aside0 (kq ≤ kj2) ∧ Aside0 (Kd.R k26 26 w' w.heap.size (fun _ => True) v162 x5_2) ∧ Aside0 (w'.heap[gb155]? = some (.cells #[.int .i64 a0_0, (.slice A0_1 l0_1.length c0_1)] 59 (0, 0))) ∧ Aside0 (Below w.heap.size w w'))
          case atStart => exact ⟨(y161), (0), (by first | rfl | (simp; done) | (simp [*]; done)), H', ⟨Nat.le_refl _⟩, ⟨by (with_reducible repeat (first | apply Kd.R_alloc | apply Kd.R_drewN | apply Kd.R_drew)); exact HO163.out⟩, ⟨by (with_reducible repeat (first | refine blk_drewN ?_ _ | refine blk_drew ?_ | refine blk_alloc ?_ _)); exact BK155.out⟩, ⟨by repeat (first | (with_reducible first | exact HB.out | apply below_alloc | apply pw_below_drewN | apply below_drew1 | refine below_set ?_ GE155.out) | exact HB.out)⟩⟩
          case round =>
            clear H'
            try clear c1
            try clear p2
            try clear c4
            try clear c6
            try clear c8
            try clear c18
            try clear c19
            try clear hcz12_0
            try clear hcz12_1
            try clear hcz13_0
            try clear hcz13_1
            try clear hcz16_0
            try clear hcz16_1
            try clear hcz9_0
            try clear hcz9_1
            try clear hfz12_0
            try clear hfz12_1
            try clear hfz13_0
            try clear hfz13_1
            try clear hfz16_0
            try clear hfz16_1
            try clear hfz9_0
            try clear hfz9_1
            try clear p2
            obtain ⟨x5_2, x6_2, rfl, HA, HK2, HO_5, BK155, HB⟩ := hrel
            cases gk with
            | zero => exact absurd HA.out (by simp [spec_RankBy.l0])
            | succ k2 =>
              have H := HA.out
              clear HA
              simp only [spec_RankBy.l0] at H
              by_cases c23 : x6_2 < (l0_1.length : Int)
              · rw [if_pos c23] at H
                have c23b0 : decide (x6_2 < (l0_1.length : Int)) = true := decide_eq_true c23
                clear c23
                by_cases c24 : 0 ≤ x6_2
                · rw [if_pos c24] at H
                  have c24b0 : decide (0 ≤ x6_2) = true := decide_eq_true c24
                  clear c24
                  by_cases c25 : 0 ≤ ((rd_T87 l0_1 x6_2).f0)
                  · rw [if_pos c25] at H
                    have c25b0 : decide (0 ≤ ((rd_T87 l0_1 x6_2).f0)) = true := decide_eq_true c25
                    clear c25
                    by_cases c26 : ((rd_T87 l0_1 x6_2).f0) < (x5_2.length : Int)
                    · rw [if_pos c26] at H
                      have c26b0 : decide (((rd_T87 l0_1 x6_2).f0) < (x5_2.length : Int)) = true := decide_eq_true c26
                      clear c26
                      by_cases c27 : 0 ≤ ((rd_T87 l0_1 x6_2).f1)
                      · rw [if_pos c27] at H
                        have c27b0 : decide (0 ≤ ((rd_T87 l0_1 x6_2).f1)) = true := decide_eq_true c27
                        clear c27
                        by_cases c28 : ((rd_T87 l0_1 x6_2).f1) < (x5_2.length : Int)
                        · rw [if_pos c28] at H
                          have c28b0 : decide (((rd_T87 l0_1 x6_2).f1) < (x5_2.length : Int)) = true := decide_eq_true c28
                          clear c28
                          replace H := Option.bind_eq_some_iff.mp H
                          obtain ⟨⟨t168, t169, t170, t171, t172, t173, t174, t175⟩, A290, H⟩ := H
                          replace H : (spec_RankBy.l0 k2 ((x5_2.set (((rd_T87 l0_1 x6_2).f0) : Int).toNat (⟨t168, t169, t170, t171⟩ : S26)).set (((rd_T87 l0_1 x6_2).f1) : Int).toNat (⟨t172, t173, t174, t175⟩ : S26)) (wrap64 (x6_2 + 1)) a0_0 l0_1) = some r := H
                          have A29 := Aside0.mk A290
                          clear A290
                          obtain ⟨y178, hy178⟩ : ∃ y_ : List (S26), y_ = (x5_2.set (((rd_T87 l0_1 x6_2).f0) : Int).toNat (⟨t168, t169, t170, t171⟩ : S26)) := ⟨_, rfl⟩
                          replace H : (spec_RankBy.l0 k2 (y178.set (((rd_T87 l0_1 x6_2).f1) : Int).toNat (⟨t172, t173, t174, t175⟩ : S26)) (wrap64 (x6_2 + 1)) a0_0 l0_1) = some r := by first | (rw [hy178]; with_reducible exact H) | (have H2_ := (Option.bind_some _ _).symm.trans H; rw [hy178]; with_reducible exact H2_) | (have H2_ := (Option.bind_some _ _).symm.trans H; with_reducible exact H2_) | with_reducible exact H | (rw [hy178]; exact H) | exact H
                          have Ny178 := Aside0.mk hy178
                          clear hy178
                          obtain ⟨y179, hy179⟩ : ∃ y_ : List (S26), y_ = (y178.set (((rd_T87 l0_1 x6_2).f1) : Int).toNat (⟨t172, t173, t174, t175⟩ : S26)) := ⟨_, rfl⟩
                          replace H : (spec_RankBy.l0 k2 y179 (wrap64 (x6_2 + 1)) a0_0 l0_1) = some r := by first | (rw [hy179]; with_reducible exact H) | (have H2_ := (Option.bind_some _ _).symm.trans H; rw [hy179]; with_reducible exact H2_) | (have H2_ := (Option.bind_some _ _).symm.trans H; with_reducible exact H2_) | with_reducible exact H | (rw [hy179]; exact H) | exact H
                          have Ny179 := Aside0.mk hy179
                          clear hy179
                          have H' := Aside0.mk H
                          clear H
                          have hcz32_0 : wr.cell? ⟨gb155, 0, none⟩ = some (.int .i64 a0_0) := (blk_cell BK155.out 0).trans rfl
                          have hcz32_1 : wr.cell? ⟨gb155, 1, none⟩ = some (.slice A0_1 l0_1.length c0_1) := (blk_cell BK155.out 1).trans rfl
                          have hfz32_0 := blk_frozen BK155.out 0
                          have hfz32_1 := blk_frozen BK155.out 1
                          have p164 : 0 ≤ (x6_2 : Int) := of_decide_eq_true (by first | (with_reducible assumption) | assumption)
                          have q164 : x6_2 < (l0_1.length : Int) := of_decide_eq_true (by first | (with_reducible assumption) | assumption)
                          obtain ⟨ad164, e164, hx164_0, hx164_1⟩ := at_T87 HR0_1.out x6_2 p164 q164
                          cases e164
                          replace hx164_0 := (HB.out.cell (World.block_lt_of_cell? w _ hx164_0)).trans hx164_0
                          replace hx164_1 := (HB.out.cell (World.block_lt_of_cell? w _ hx164_1)).trans hx164_1
                          replace p164 := eq_true p164
                          replace q164 := eq_true q164
                          try go_wp2_with (first | ((with_reducible refine gate_dst (N := 7) rfl ?_); (try (refine gate_guard (by rfl) ?_; dsimp only)); refine box_event ?hg (N := 7) ?hd (cs := #[.int .i64 0, .int .i64 0]) (t := 87) ?hr ?_; (case hd => rfl); (case hg => rfl); (case hr => first | (go_simp; done) | (go_simp; rfl)); intro gb165 hg w33 hbox hb; have n0_ := Aside0.mk (Kd.R_below (by (with_reducible repeat (first | apply Kd.R_alloc | apply Kd.R_drewN | apply Kd.R_drew)); exact HO_5.out) hb); have n1_ := Aside0.mk (blk_below (g := gb155) (o := .cells #[.int .i64 a0_0, .slice (some ad164) l0_1.length c0_1] 59 (0, 0)) (by (with_reducible repeat (first | refine blk_drewN ?_ _ | refine blk_drew ?_ | refine blk_alloc ?_ _)); exact BK155.out) hb); have n2_ := Aside0.mk (below_step (by repeat (first | (with_reducible first | exact HB.out | apply below_alloc | apply pw_below_drewN | apply below_drew1 | refine below_set ?_ GE155.out) | exact HB.out)) hb); have n3_ := Aside0.mk (hbox); have n4_ := Aside0.mk ((by rw [hg]; exact (below_size (by repeat (first | (with_reducible first | exact HB.out | apply below_alloc | apply pw_below_drewN | apply below_drew1 | refine below_set ?_ GE155.out) | exact HB.out))) : w.heap.size ≤ gb165)); have n5_ := Aside0.mk ((by rw [hg]; exact (below_size (by repeat (first | (with_reducible first | exact HB.out | apply below_alloc | apply pw_below_drewN | apply below_drew1 | refine below_set ?_ GE155.out) | exact HB.out))) : w.heap.size ≤ gb165)); have n6_ := Aside0.mk ((by rw [hg]; exact Nat.ne_of_lt (blk_lt (g := gb155) (o := .cells #[.int .i64 a0_0, .slice (some ad164) l0_1.length c0_1] 59 (0, 0)) (by (with_reducible repeat (first | refine blk_drewN ?_ _ | refine blk_drew ?_ | refine blk_alloc ?_ _)); exact BK155.out)) : gb155 ≠ gb165)); have n7_ := Aside0.mk ((by rw [hg]; exact Nat.ne_of_gt (blk_lt (g := gb155) (o := .cells #[.int .i64 a0_0, .slice (some ad164) l0_1.length c0_1] 59 (0, 0)) (by (with_reducible repeat (first | refine blk_drewN ?_ _ | refine blk_drew ?_ | refine blk_alloc ?_ _)); exact BK155.out)) : gb165 ≠ gb155)); clear HO_5; clear BK155; clear HB; have HO_5 := n0_; have BK155 := n1_; have HB := n2_; have BK165 := n3_; have GW165 := n4_; have GE165 := n5_; have NB155_165 := n6_; have NB165_155 := n7_; clear n0_ n1_ n2_ n3_ n4_ n5_ n6_ n7_; clear hb hbox hg; have hnb34 := NB165_155.out; have hnc34 := NB155_165.out; have hcz35_0 : w33.cell? ⟨gb165, 0, none⟩ = some (.int .i64 0) := (blk_cell BK165.out 0).trans rfl; have hcz35_1 : w33.cell? ⟨gb165, 1, none⟩ = some (.int .i64 0) := (blk_cell BK165.out 1).trans rfl; have hfz35_0 := blk_frozen BK165.out 0; have hfz35_1 := blk_frozen BK165.out 1))
                          have n0_ : Aside0 (Kd.R k26 26 ((w33.setCell ⟨gb165, 0, none⟩ (.int .i64 ((rd_T87 l0_1 x6_2).f0))).setCell ⟨gb165, 1, none⟩ (.int .i64 ((rd_T87 l0_1 x6_2).f1))) w.heap.size (fun _ => True) v162 x5_2) := ⟨by (with_reducible repeat (first | apply Kd.R_alloc | apply Kd.R_drewN | apply Kd.R_drew)); exact Kd.R_mono (Kd.R_far (p := ⟨gb165, 1, none⟩) (Kd.R_far (p := ⟨gb165, 0, none⟩) (Kd.R_types HO_5.out BK165.out (by decide)) (fun _ hk => by first | exact hk.2 | trivial) (.int .i64 ((rd_T87 l0_1 x6_2).f0))) (fun _ hk => by first | exact hk.2 | trivial) (.int .i64 ((rd_T87 l0_1 x6_2).f1))) (fun _ hk => trivial)⟩
                          have n1_ : Aside0 (((w33.setCell ⟨gb165, 0, none⟩ (.int .i64 ((rd_T87 l0_1 x6_2).f0))).setCell ⟨gb165, 1, none⟩ (.int .i64 ((rd_T87 l0_1 x6_2).f1))).heap[gb155]? = some (.cells #[.int .i64 a0_0, .slice (some ad164) l0_1.length c0_1] 59 (0, 0))) := ⟨by (with_reducible repeat (first | refine blk_drewN ?_ _ | refine blk_drew ?_ | refine blk_alloc ?_ _)); refine blk_far ?_ NB155_165.out _; (with_reducible repeat (first | refine blk_drewN ?_ _ | refine blk_drew ?_ | refine blk_alloc ?_ _)); refine blk_far ?_ NB155_165.out _; (with_reducible repeat (first | refine blk_drewN ?_ _ | refine blk_drew ?_ | refine blk_alloc ?_ _)); exact BK155.out⟩
                          have n2_ : Aside0 (((w33.setCell ⟨gb165, 0, none⟩ (.int .i64 ((rd_T87 l0_1 x6_2).f0))).setCell ⟨gb165, 1, none⟩ (.int .i64 ((rd_T87 l0_1 x6_2).f1))).heap[gb165]? = some (.cells #[.int .i64 ((rd_T87 l0_1 x6_2).f0), .int .i64 ((rd_T87 l0_1 x6_2).f1)] 87 (0, 0))) := ⟨by (with_reducible repeat (first | refine blk_drewN ?_ _ | refine blk_drew ?_ | refine blk_alloc ?_ _)); refine blk_put (cs := #[.int .i64 ((rd_T87 l0_1 x6_2).f0), .int .i64 0]) ?_ 1 _ rfl; (with_reducible repeat (first | refine blk_drewN ?_ _ | refine blk_drew ?_ | refine blk_alloc ?_ _)); refine blk_put (cs := #[.int .i64 0, .int .i64 0]) ?_ 0 _ rfl; (with_reducible repeat (first | refine blk_drewN ?_ _ | refine blk_drew ?_ | refine blk_alloc ?_ _)); exact BK165.out⟩
                          have n3_ : Aside0 (Below w.heap.size w ((w33.setCell ⟨gb165, 0, none⟩ (.int .i64 ((rd_T87 l0_1 x6_2).f0))).setCell ⟨gb165, 1, none⟩ (.int .i64 ((rd_T87 l0_1 x6_2).f1)))) := ⟨by repeat (first | (with_reducible first | exact HB.out | apply below_alloc | apply pw_below_drewN | apply below_drew1 | refine below_set ?_ GE155.out | refine below_set ?_ GE165.out) | exact HB.out)⟩
                          (try clear HO_5)
                          (try clear BK155)
                          (try clear BK165)
                          (try clear HB)
                          generalize ((w33.setCell ⟨gb165, 0, none⟩ (.int .i64 ((rd_T87 l0_1 x6_2).f0))).setCell ⟨gb165, 1, none⟩ (.int .i64 ((rd_T87 l0_1 x6_2).f1))) = w36 at n0_ n1_ n2_ n3_ ⊢
                          have HO_5 := n0_
                          have BK155 := n1_
                          have BK165 := n2_
                          have HB := n3_
                          clear n0_ n1_ n2_ n3_
                          have n0_ := Aside0.mk (Kd.R_drew HO_5.out)
                          have n1_ := Aside0.mk (blk_drew BK155.out)
                          have n2_ := Aside0.mk (blk_drew BK165.out)
                          have n3_ := Aside0.mk (below_drew1 HB.out)
                          clear HO_5
                          clear BK155
                          clear BK165
                          clear HB
                          have HO_5 := n0_
                          have BK155 := n1_
                          have BK165 := n2_
                          have HB := n3_
                          clear n0_ n1_ n2_ n3_
                          obtain ⟨Ao38, co38, eo38⟩ := Kd.R_slice HO_5.out
                          (first | subst eo38 | (injection eo38 with f1_ f2_ f3_; have f4_ := f1_.symm; have f5_ := f3_.symm; clear f1_ f2_ f3_; subst f4_; subst f5_))
                          have p166 : 0 ≤ (((rd_T87 l0_1 x6_2).f0) : Int) := of_decide_eq_true (by first | (with_reducible assumption) | assumption)
                          have q166 : ((rd_T87 l0_1 x6_2).f0) < (x5_2.length : Int) := of_decide_eq_true (by first | (with_reducible assumption) | assumption)
                          obtain ⟨ad166, e166, hx166_0, hx166_1, hx166_2, hx166_3⟩ := at_T26 (Kd.R_reads' HO_5.out).2.2 ((rd_T87 l0_1 x6_2).f0) p166 q166
                          cases e166
                          replace p166 := eq_true p166
                          replace q166 := eq_true q166
                          have p167 : 0 ≤ (((rd_T87 l0_1 x6_2).f1) : Int) := of_decide_eq_true (by first | (with_reducible assumption) | assumption)
                          have q167 : ((rd_T87 l0_1 x6_2).f1) < (x5_2.length : Int) := of_decide_eq_true (by first | (with_reducible assumption) | assumption)
                          obtain ⟨ad167, e167, hx167_0, hx167_1, hx167_2, hx167_3⟩ := at_T26 (Kd.R_reads' HO_5.out).2.2 ((rd_T87 l0_1 x6_2).f1) p167 q167
                          obtain rfl : ad166 = ad167 := (by injection e167)
                          replace p167 := eq_true p167
                          replace q167 := eq_true q167
                          refine start_ (n := 18) (S := fun w' => w'.cell? ⟨gb165, 0, none⟩ = some (.int .i64 ((rd_T87 l0_1 x6_2).f0)) ∧ w'.cell? ⟨gb165, 1, none⟩ = some (.int .i64 ((rd_T87 l0_1 x6_2).f1)) ∧ w'.cell? (ad166.add ((((rd_T87 l0_1 x6_2).f0)).toNat * 4)) = some (.bool ((rd_T26 x5_2 ((rd_T87 l0_1 x6_2).f0)).f0)) ∧ w'.cell? ⟨(ad166.add ((((rd_T87 l0_1 x6_2).f0)).toNat * 4)).block, (ad166.add ((((rd_T87 l0_1 x6_2).f0)).toNat * 4)).off + 1, none⟩ = some (.int .i64 ((rd_T26 x5_2 ((rd_T87 l0_1 x6_2).f0)).f1)) ∧ w'.cell? ⟨(ad166.add ((((rd_T87 l0_1 x6_2).f0)).toNat * 4)).block, (ad166.add ((((rd_T87 l0_1 x6_2).f0)).toNat * 4)).off + 2, none⟩ = some (.int .i64 ((rd_T26 x5_2 ((rd_T87 l0_1 x6_2).f0)).f2)) ∧ w'.cell? ⟨(ad166.add ((((rd_T87 l0_1 x6_2).f0)).toNat * 4)).block, (ad166.add ((((rd_T87 l0_1 x6_2).f0)).toNat * 4)).off + 3, none⟩ = some (.string ((rd_T26 x5_2 ((rd_T87 l0_1 x6_2).f0)).f3)) ∧ w'.cell? (ad166.add ((((rd_T87 l0_1 x6_2).f1)).toNat * 4)) = some (.bool ((rd_T26 x5_2 ((rd_T87 l0_1 x6_2).f1)).f0)) ∧ w'.cell? ⟨(ad166.add ((((rd_T87 l0_1 x6_2).f1)).toNat * 4)).block, (ad166.add ((((rd_T87 l0_1 x6_2).f1)).toNat * 4)).off + 1, none⟩ = some (.int .i64 ((rd_T26 x5_2 ((rd_T87 l0_1 x6_2).f1)).f1)) ∧ w'.cell? ⟨(ad166.add ((((rd_T87 l0_1 x6_2).f1)).toNat * 4)).block, (ad166.add ((((rd_T87 l0_1 x6_2).f1)).toNat * 4)).off + 2, none⟩ = some (.int .i64 ((rd_T26 x5_2 ((rd_T87 l0_1 x6_2).f1)).f2)) ∧ w'.cell? ⟨(ad166.add ((((rd_T87 l0_1 x6_2).f1)).toNat * 4)).block, (ad166.add ((((rd_T87 l0_1 x6_2).f1)).toNat * 4)).off + 3, none⟩ = some (.string ((rd_T26 x5_2 ((rd_T87 l0_1 x6_2).f1)).f3))) (ds := []) #[false, false, false, false, false, false, false, false, false, false, false, false, false, false, false, false, false, false] (by kernel_rfl) rfl rfl ⟨(blk_cell BK165.out 0).trans rfl, (blk_cell BK165.out 1).trans rfl, hx166_0, hx166_1, hx166_2, hx166_3, hx167_0, hx167_1, hx167_2, hx167_3⟩ (fun hHeld => ?_); refine with_tabW spec_RankBy.tab8 spec_RankBy.bits8 (fun HT_ HW_ => ?_)
                          generalize w36.drew = w37 at HO_5 BK155 BK165 HB hx166_0 hx166_1 hx166_2 hx166_3 hx167_0 hx167_1 hx167_2 hx167_3 hHeld ⊢
                          refine pure_ (i := 0) (N := some 41) (v := ?_) (a' := ?_) #[true, false, false, false, false, false, false, false, false, false, false, false, false, false, false, false, false, false] rfl rfl (any_of HT_.out (by kernel_rfl)) (fun _ _ _ h => h) (Or.inl ⟨by rfl, ?_⟩) ?_ ?_
                          rotate_left
                          · intro w'
                            go_simp
                            with_reducible rfl
                          rotate_left
                          · simp only [Act.put, List.setIfInBounds_toArray, List.set_cons_zero, List.set_cons_succ, i64_w, i32_w]
                            rfl
                          refine pure_ (i := 1) (N := some 42) (v := ?_) (a' := ?_) #[true, true, false, false, false, false, false, false, false, false, false, false, false, false, false, false, false, false] rfl rfl (any_of HT_.out (by kernel_rfl)) (fun _ _ _ h => h) (Or.inl ⟨by rfl, ?_⟩) ?_ ?_
                          rotate_left
                          · intro w'
                            go_simp
                            with_reducible rfl
                          rotate_left
                          · simp only [Act.put, List.setIfInBounds_toArray, List.set_cons_zero, List.set_cons_succ, i64_w, i32_w]
                            rfl
                          refine pure_ (i := 5) (N := some 46) (v := ?_) (a' := ?_) #[true, true, false, false, false, true, false, false, false, false, false, false, false, false, false, false, false, false] rfl rfl (any_of HT_.out (by kernel_rfl)) (fun _ _ _ h => h) (Or.inl ⟨by rfl, ?_⟩) ?_ ?_
                          rotate_left
                          · intro w'
                            go_simp
                            with_reducible rfl
                          rotate_left
                          · simp only [Act.put, List.setIfInBounds_toArray, List.set_cons_zero, List.set_cons_succ, i64_w, i32_w]
                            rfl
                          refine pure_ (i := 6) (N := some 47) (v := ?_) (a' := ?_) #[true, true, false, false, false, true, true, false, false, false, false, false, false, false, false, false, false, false] rfl rfl (any_of HT_.out (by kernel_rfl)) (fun _ _ _ h => h) (Or.inl ⟨by rfl, ?_⟩) ?_ ?_
                          rotate_left
                          · intro w'
                            go_simp
                            with_reducible rfl
                          rotate_left
                          · simp only [Act.put, List.setIfInBounds_toArray, List.set_cons_zero, List.set_cons_succ, i64_w, i32_w]
                            rfl
                          refine take_ (i := 2) (N := some 43) (v := ?_) (a' := ?_) #[true, true, true, false, false, true, true, false, false, false, false, false, false, false, false, false, false, false] rfl rfl (take_ofW HT_.out HW_.out (by kernel_rfl)) (fun _ _ _ h => h) (Or.inl ⟨by rfl, ?_⟩) hHeld ?_ ?_
                          rotate_left
                          · rintro w' ⟨s0, s1, s2, s3, s4, s5, s6, s7, s8, s9⟩
                            go_simp
                            with_reducible rfl
                          rotate_left
                          · simp only [Act.put, List.setIfInBounds_toArray, List.set_cons_zero, List.set_cons_succ, i64_w, i32_w]
                            rfl
                          refine pure_ (i := 3) (N := some 44) (v := ?_) (a' := ?_) #[true, true, true, true, false, true, true, false, false, false, false, false, false, false, false, false, false, false] rfl rfl (any_of HT_.out (by kernel_rfl)) (fun _ _ _ h => h) (Or.inl ⟨by rfl, ?_⟩) ?_ ?_
                          rotate_left
                          · intro w'
                            go_simp
                            with_reducible rfl
                          rotate_left
                          · simp only [Act.put, List.setIfInBounds_toArray, List.set_cons_zero, List.set_cons_succ, i64_w, i32_w]
                            rfl
                          refine take_ (i := 4) (N := some 45) (v := ?_) (a' := ?_) #[true, true, true, true, true, true, true, false, false, false, false, false, false, false, false, false, false, false] rfl rfl (take_ofW HT_.out HW_.out (by kernel_rfl)) (fun _ _ _ h => h) (Or.inl ⟨by rfl, ?_⟩) hHeld ?_ ?_
                          rotate_left
                          · rintro w' ⟨s0, s1, s2, s3, s4, s5, s6, s7, s8, s9⟩
                            go_simp
                            with_reducible rfl
                          rotate_left
                          · simp only [Act.put, List.setIfInBounds_toArray, List.set_cons_zero, List.set_cons_succ, i64_w, i32_w]
                            rfl
                          refine take_ (i := 7) (N := some 48) (v := ?_) (a' := ?_) #[true, true, true, true, true, true, true, true, false, false, false, false, false, false, false, false, false, false] rfl rfl (take_ofW HT_.out HW_.out (by kernel_rfl)) (fun _ _ _ h => h) (Or.inl ⟨by rfl, ?_⟩) hHeld ?_ ?_
                          rotate_left
                          · rintro w' ⟨s0, s1, s2, s3, s4, s5, s6, s7, s8, s9⟩
                            go_simp
                            with_reducible rfl
                          rotate_left
                          · simp only [Act.put, List.setIfInBounds_toArray, List.set_cons_zero, List.set_cons_succ, i64_w, i32_w]
                            rfl
                          refine pure_ (i := 8) (N := some 49) (v := ?_) (a' := ?_) #[true, true, true, true, true, true, true, true, true, false, false, false, false, false, false, false, false, false] rfl rfl (any_of HT_.out (by kernel_rfl)) (fun _ _ _ h => h) (Or.inl ⟨by rfl, ?_⟩) ?_ ?_
                          rotate_left
                          · intro w'
                            go_simp
                            with_reducible rfl
                          rotate_left
                          · simp only [Act.put, List.setIfInBounds_toArray, List.set_cons_zero, List.set_cons_succ, i64_w, i32_w]
                            rfl
                          refine take_ (i := 9) (N := some 50) (v := ?_) (a' := ?_) #[true, true, true, true, true, true, true, true, true, true, false, false, false, false, false, false, false, false] rfl rfl (take_ofW HT_.out HW_.out (by kernel_rfl)) (fun _ _ _ h => h) (Or.inl ⟨by rfl, ?_⟩) hHeld ?_ ?_
                          rotate_left
                          · rintro w' ⟨s0, s1, s2, s3, s4, s5, s6, s7, s8, s9⟩
                            go_simp
                            with_reducible rfl
                          rotate_left
                          · simp only [Act.put, List.setIfInBounds_toArray, List.set_cons_zero, List.set_cons_succ, i64_w, i32_w]
                            rfl
                          refine join_ (σ := Nat × Nat) 2 #[true, true, true, true, true, true, true, true, true, true, true, true, true, true, true, true, false, false] (fun s_ => [(51, .tuple #[.agg #[.bool t168, .int .i64 t169, .int .i64 t170, .string t171], .agg #[.bool t172, .int .i64 t173, .int .i64 t174, .string t175]]), (8, .pointer (some ⟨s_.1, 0, none⟩)), (9, .pointer (some ⟨s_.2, 0, none⟩)), (40, .tuple #[.agg #[.bool t168, .int .i64 t169, .int .i64 t170, .string t171], .agg #[.bool t172, .int .i64 t173, .int .i64 t174, .string t175]]), (52, .agg #[.bool t168, .int .i64 t169, .int .i64 t170, .string t171]), (53, .agg #[.bool t172, .int .i64 t173, .int .i64 t174, .string t175])]) (fun s_ w' => (w'.cell? ⟨gb165, 0, none⟩ = some (.int .i64 ((rd_T87 l0_1 x6_2).f0)) ∧ w'.cell? ⟨gb165, 1, none⟩ = some (.int .i64 ((rd_T87 l0_1 x6_2).f1)) ∧ w'.cell? (ad166.add ((((rd_T87 l0_1 x6_2).f0)).toNat * 4)) = some (.bool ((rd_T26 x5_2 ((rd_T87 l0_1 x6_2).f0)).f0)) ∧ w'.cell? ⟨(ad166.add ((((rd_T87 l0_1 x6_2).f0)).toNat * 4)).block, (ad166.add ((((rd_T87 l0_1 x6_2).f0)).toNat * 4)).off + 1, none⟩ = some (.int .i64 ((rd_T26 x5_2 ((rd_T87 l0_1 x6_2).f0)).f1)) ∧ w'.cell? ⟨(ad166.add ((((rd_T87 l0_1 x6_2).f0)).toNat * 4)).block, (ad166.add ((((rd_T87 l0_1 x6_2).f0)).toNat * 4)).off + 2, none⟩ = some (.int .i64 ((rd_T26 x5_2 ((rd_T87 l0_1 x6_2).f0)).f2)) ∧ w'.cell? ⟨(ad166.add ((((rd_T87 l0_1 x6_2).f0)).toNat * 4)).block, (ad166.add ((((rd_T87 l0_1 x6_2).f0)).toNat * 4)).off + 3, none⟩ = some (.string ((rd_T26 x5_2 ((rd_T87 l0_1 x6_2).f0)).f3)) ∧ w'.cell? (ad166.add ((((rd_T87 l0_1 x6_2).f1)).toNat * 4)) = some (.bool ((rd_T26 x5_2 ((rd_T87 l0_1 x6_2).f1)).f0)) ∧ w'.cell? ⟨(ad166.add ((((rd_T87 l0_1 x6_2).f1)).toNat * 4)).block, (ad166.add ((((rd_T87 l0_1 x6_2).f1)).toNat * 4)).off + 1, none⟩ = some (.int .i64 ((rd_T26 x5_2 ((rd_T87 l0_1 x6_2).f1)).f1)) ∧ w'.cell? ⟨(ad166.add ((((rd_T87 l0_1 x6_2).f1)).toNat * 4)).block, (ad166.add ((((rd_T87 l0_1 x6_2).f1)).toNat * 4)).off + 2, none⟩ = some (.int .i64 ((rd_T26 x5_2 ((rd_T87 l0_1 x6_2).f1)).f2)) ∧ w'.cell? ⟨(ad166.add ((((rd_T87 l0_1 x6_2).f1)).toNat * 4)).block, (ad166.add ((((rd_T87 l0_1 x6_2).f1)).toNat * 4)).off + 3, none⟩ = some (.string ((rd_T26 x5_2 ((rd_T87 l0_1 x6_2).f1)).f3))) ∧ (Kd.R k26 26 w' w.heap.size (fun k_ => k_ ≠ s_.1 ∧ k_ ≠ s_.2) (.slice (some ad166) x5_2.length co38) x5_2) ∧ (w'.heap[gb155]? = some (.cells #[.int .i64 a0_0, .slice (some ad164) l0_1.length c0_1] 59 (0, 0))) ∧ (w'.heap[gb165]? = some (.cells #[.int .i64 ((rd_T87 l0_1 x6_2).f0), .int .i64 ((rd_T87 l0_1 x6_2).f1)] 87 (0, 0))) ∧ (w'.heap[s_.1]? = some (.cells #[.bool false, .int .i64 0, .int .i64 0, .string (⟨#[]⟩ : ByteArray)] 26 (0, 0))) ∧ (w'.heap[s_.2]? = some (.cells #[.bool false, .int .i64 0, .int .i64 0, .string (⟨#[]⟩ : ByteArray)] 26 (0, 0))) ∧ (w.heap.size ≤ s_.1) ∧ (w.heap.size ≤ s_.1) ∧ (gb155 ≠ s_.1) ∧ (s_.1 ≠ gb155) ∧ (gb165 ≠ s_.1) ∧ (s_.1 ≠ gb165) ∧ (s_.2 ≠ s_.1) ∧ (s_.1 ≠ s_.2) ∧ (w.heap.size ≤ s_.2) ∧ (w.heap.size ≤ s_.2) ∧ (gb155 ≠ s_.2) ∧ (s_.2 ≠ gb155) ∧ (gb165 ≠ s_.2) ∧ (s_.2 ≠ gb165) ∧ (Below w.heap.size w w')) ?_ ?_
                          rotate_left
                          · intro hJ10_14_15
                            refine join_ (σ := Nat) 3 #[true, true, true, true, true, true, true, true, true, true, true, true, true, true, true, false, false, false] (fun s_ => [(51, .tuple #[.agg #[.bool t168, .int .i64 t169, .int .i64 t170, .string t171], .agg #[.bool t172, .int .i64 t173, .int .i64 t174, .string t175]]), (8, .pointer (some ⟨s_, 0, none⟩)), (40, .tuple #[.agg #[.bool t168, .int .i64 t169, .int .i64 t170, .string t171], .agg #[.bool t172, .int .i64 t173, .int .i64 t174, .string t175]]), (52, .agg #[.bool t168, .int .i64 t169, .int .i64 t170, .string t171]), (53, .agg #[.bool t172, .int .i64 t173, .int .i64 t174, .string t175])]) (fun s_ w' => (w'.cell? ⟨gb165, 0, none⟩ = some (.int .i64 ((rd_T87 l0_1 x6_2).f0)) ∧ w'.cell? ⟨gb165, 1, none⟩ = some (.int .i64 ((rd_T87 l0_1 x6_2).f1)) ∧ w'.cell? (ad166.add ((((rd_T87 l0_1 x6_2).f0)).toNat * 4)) = some (.bool ((rd_T26 x5_2 ((rd_T87 l0_1 x6_2).f0)).f0)) ∧ w'.cell? ⟨(ad166.add ((((rd_T87 l0_1 x6_2).f0)).toNat * 4)).block, (ad166.add ((((rd_T87 l0_1 x6_2).f0)).toNat * 4)).off + 1, none⟩ = some (.int .i64 ((rd_T26 x5_2 ((rd_T87 l0_1 x6_2).f0)).f1)) ∧ w'.cell? ⟨(ad166.add ((((rd_T87 l0_1 x6_2).f0)).toNat * 4)).block, (ad166.add ((((rd_T87 l0_1 x6_2).f0)).toNat * 4)).off + 2, none⟩ = some (.int .i64 ((rd_T26 x5_2 ((rd_T87 l0_1 x6_2).f0)).f2)) ∧ w'.cell? ⟨(ad166.add ((((rd_T87 l0_1 x6_2).f0)).toNat * 4)).block, (ad166.add ((((rd_T87 l0_1 x6_2).f0)).toNat * 4)).off + 3, none⟩ = some (.string ((rd_T26 x5_2 ((rd_T87 l0_1 x6_2).f0)).f3)) ∧ w'.cell? (ad166.add ((((rd_T87 l0_1 x6_2).f1)).toNat * 4)) = some (.bool ((rd_T26 x5_2 ((rd_T87 l0_1 x6_2).f1)).f0)) ∧ w'.cell? ⟨(ad166.add ((((rd_T87 l0_1 x6_2).f1)).toNat * 4)).block, (ad166.add ((((rd_T87 l0_1 x6_2).f1)).toNat * 4)).off + 1, none⟩ = some (.int .i64 ((rd_T26 x5_2 ((rd_T87 l0_1 x6_2).f1)).f1)) ∧ w'.cell? ⟨(ad166.add ((((rd_T87 l0_1 x6_2).f1)).toNat * 4)).block, (ad166.add ((((rd_T87 l0_1 x6_2).f1)).toNat * 4)).off + 2, none⟩ = some (.int .i64 ((rd_T26 x5_2 ((rd_T87 l0_1 x6_2).f1)).f2)) ∧ w'.cell? ⟨(ad166.add ((((rd_T87 l0_1 x6_2).f1)).toNat * 4)).block, (ad166.add ((((rd_T87 l0_1 x6_2).f1)).toNat * 4)).off + 3, none⟩ = some (.string ((rd_T26 x5_2 ((rd_T87 l0_1 x6_2).f1)).f3))) ∧ (Kd.R k26 26 w' w.heap.size (fun k_ => k_ ≠ s_) (.slice (some ad166) x5_2.length co38) x5_2) ∧ (w'.heap[gb155]? = some (.cells #[.int .i64 a0_0, .slice (some ad164) l0_1.length c0_1] 59 (0, 0))) ∧ (w'.heap[gb165]? = some (.cells #[.int .i64 ((rd_T87 l0_1 x6_2).f0), .int .i64 ((rd_T87 l0_1 x6_2).f1)] 87 (0, 0))) ∧ (w'.heap[s_]? = some (.cells #[.bool false, .int .i64 0, .int .i64 0, .string (⟨#[]⟩ : ByteArray)] 26 (0, 0))) ∧ (w.heap.size ≤ s_) ∧ (w.heap.size ≤ s_) ∧ (gb155 ≠ s_) ∧ (s_ ≠ gb155) ∧ (gb165 ≠ s_) ∧ (s_ ≠ gb165) ∧ (Below w.heap.size w w')) ?_ ?_
                            rotate_left
                            · intro hJ10_14
                              refine join_ (σ := Nat) 3 #[true, true, true, true, true, true, true, true, true, true, true, true, true, true, false, true, false, false] (fun s_ => [(51, .tuple #[.agg #[.bool t168, .int .i64 t169, .int .i64 t170, .string t171], .agg #[.bool t172, .int .i64 t173, .int .i64 t174, .string t175]]), (9, .pointer (some ⟨s_, 0, none⟩)), (40, .tuple #[.agg #[.bool t168, .int .i64 t169, .int .i64 t170, .string t171], .agg #[.bool t172, .int .i64 t173, .int .i64 t174, .string t175]]), (52, .agg #[.bool t168, .int .i64 t169, .int .i64 t170, .string t171]), (53, .agg #[.bool t172, .int .i64 t173, .int .i64 t174, .string t175])]) (fun s_ w' => (w'.cell? ⟨gb165, 0, none⟩ = some (.int .i64 ((rd_T87 l0_1 x6_2).f0)) ∧ w'.cell? ⟨gb165, 1, none⟩ = some (.int .i64 ((rd_T87 l0_1 x6_2).f1)) ∧ w'.cell? (ad166.add ((((rd_T87 l0_1 x6_2).f0)).toNat * 4)) = some (.bool ((rd_T26 x5_2 ((rd_T87 l0_1 x6_2).f0)).f0)) ∧ w'.cell? ⟨(ad166.add ((((rd_T87 l0_1 x6_2).f0)).toNat * 4)).block, (ad166.add ((((rd_T87 l0_1 x6_2).f0)).toNat * 4)).off + 1, none⟩ = some (.int .i64 ((rd_T26 x5_2 ((rd_T87 l0_1 x6_2).f0)).f1)) ∧ w'.cell? ⟨(ad166.add ((((rd_T87 l0_1 x6_2).f0)).toNat * 4)).block, (ad166.add ((((rd_T87 l0_1 x6_2).f0)).toNat * 4)).off + 2, none⟩ = some (.int .i64 ((rd_T26 x5_2 ((rd_T87 l0_1 x6_2).f0)).f2)) ∧ w'.cell? ⟨(ad166.add ((((rd_T87 l0_1 x6_2).f0)).toNat * 4)).block, (ad166.add ((((rd_T87 l0_1 x6_2).f0)).toNat * 4)).off + 3, none⟩ = some (.string ((rd_T26 x5_2 ((rd_T87 l0_1 x6_2).f0)).f3)) ∧ w'.cell? (ad166.add ((((rd_T87 l0_1 x6_2).f1)).toNat * 4)) = some (.bool ((rd_T26 x5_2 ((rd_T87 l0_1 x6_2).f1)).f0)) ∧ w'.cell? ⟨(ad166.add ((((rd_T87 l0_1 x6_2).f1)).toNat * 4)).block, (ad166.add ((((rd_T87 l0_1 x6_2).f1)).toNat * 4)).off + 1, none⟩ = some (.int .i64 ((rd_T26 x5_2 ((rd_T87 l0_1 x6_2).f1)).f1)) ∧ w'.cell? ⟨(ad166.add ((((rd_T87 l0_1 x6_2).f1)).toNat * 4)).block, (ad166.add ((((rd_T87 l0_1 x6_2).f1)).toNat * 4)).off + 2, none⟩ = some (.int .i64 ((rd_T26 x5_2 ((rd_T87 l0_1 x6_2).f1)).f2)) ∧ w'.cell? ⟨(ad166.add ((((rd_T87 l0_1 x6_2).f1)).toNat * 4)).block, (ad166.add ((((rd_T87 l0_1 x6_2).f1)).toNat * 4)).off + 3, none⟩ = some (.string ((rd_T26 x5_2 ((rd_T87 l0_1 x6_2).f1)).f3))) ∧ (Kd.R k26 26 w' w.heap.size (fun k_ => k_ ≠ s_) (.slice (some ad166) x5_2.length co38) x5_2) ∧ (w'.heap[gb155]? = some (.cells #[.int .i64 a0_0, .slice (some ad164) l0_1.length c0_1] 59 (0, 0))) ∧ (w'.heap[gb165]? = some (.cells #[.int .i64 ((rd_T87 l0_1 x6_2).f0), .int .i64 ((rd_T87 l0_1 x6_2).f1)] 87 (0, 0))) ∧ (w'.heap[s_]? = some (.cells #[.bool false, .int .i64 0, .int .i64 0, .string (⟨#[]⟩ : ByteArray)] 26 (0, 0))) ∧ (w.heap.size ≤ s_) ∧ (w.heap.size ≤ s_) ∧ (gb155 ≠ s_) ∧ (s_ ≠ gb155) ∧ (gb165 ≠ s_) ∧ (s_ ≠ gb165) ∧ (Below w.heap.size w w')) ?_ ?_
                              rotate_left
                              · intro hJ10_15
                                refine join_ (σ := Nat × Nat) 6 #[true, true, true, true, true, true, true, true, true, true, false, false, false, false, true, true, false, false] (fun s_ => [(8, .pointer (some ⟨s_.1, 0, none⟩)), (9, .pointer (some ⟨s_.2, 0, none⟩))]) (fun s_ w' => (w'.cell? ⟨gb165, 0, none⟩ = some (.int .i64 ((rd_T87 l0_1 x6_2).f0)) ∧ w'.cell? ⟨gb165, 1, none⟩ = some (.int .i64 ((rd_T87 l0_1 x6_2).f1)) ∧ w'.cell? (ad166.add ((((rd_T87 l0_1 x6_2).f0)).toNat * 4)) = some (.bool ((rd_T26 x5_2 ((rd_T87 l0_1 x6_2).f0)).f0)) ∧ w'.cell? ⟨(ad166.add ((((rd_T87 l0_1 x6_2).f0)).toNat * 4)).block, (ad166.add ((((rd_T87 l0_1 x6_2).f0)).toNat * 4)).off + 1, none⟩ = some (.int .i64 ((rd_T26 x5_2 ((rd_T87 l0_1 x6_2).f0)).f1)) ∧ w'.cell? ⟨(ad166.add ((((rd_T87 l0_1 x6_2).f0)).toNat * 4)).block, (ad166.add ((((rd_T87 l0_1 x6_2).f0)).toNat * 4)).off + 2, none⟩ = some (.int .i64 ((rd_T26 x5_2 ((rd_T87 l0_1 x6_2).f0)).f2)) ∧ w'.cell? ⟨(ad166.add ((((rd_T87 l0_1 x6_2).f0)).toNat * 4)).block, (ad166.add ((((rd_T87 l0_1 x6_2).f0)).toNat * 4)).off + 3, none⟩ = some (.string ((rd_T26 x5_2 ((rd_T87 l0_1 x6_2).f0)).f3)) ∧ w'.cell? (ad166.add ((((rd_T87 l0_1 x6_2).f1)).toNat * 4)) = some (.bool ((rd_T26 x5_2 ((rd_T87 l0_1 x6_2).f1)).f0)) ∧ w'.cell? ⟨(ad166.add ((((rd_T87 l0_1 x6_2).f1)).toNat * 4)).block, (ad166.add ((((rd_T87 l0_1 x6_2).f1)).toNat * 4)).off + 1, none⟩ = some (.int .i64 ((rd_T26 x5_2 ((rd_T87 l0_1 x6_2).f1)).f1)) ∧ w'.cell? ⟨(ad166.add ((((rd_T87 l0_1 x6_2).f1)).toNat * 4)).block, (ad166.add ((((rd_T87 l0_1 x6_2).f1)).toNat * 4)).off + 2, none⟩ = some (.int .i64 ((rd_T26 x5_2 ((rd_T87 l0_1 x6_2).f1)).f2)) ∧ w'.cell? ⟨(ad166.add ((((rd_T87 l0_1 x6_2).f1)).toNat * 4)).block, (ad166.add ((((rd_T87 l0_1 x6_2).f1)).toNat * 4)).off + 3, none⟩ = some (.string ((rd_T26 x5_2 ((rd_T87 l0_1 x6_2).f1)).f3))) ∧ (Kd.R k26 26 w' w.heap.size (fun k_ => k_ ≠ s_.1 ∧ k_ ≠ s_.2) (.slice (some ad166) x5_2.length co38) x5_2) ∧ (w'.heap[gb155]? = some (.cells #[.int .i64 a0_0, .slice (some ad164) l0_1.length c0_1] 59 (0, 0))) ∧ (w'.heap[gb165]? = some (.cells #[.int .i64 ((rd_T87 l0_1 x6_2).f0), .int .i64 ((rd_T87 l0_1 x6_2).f1)] 87 (0, 0))) ∧ (w'.heap[s_.1]? = some (.cells #[.bool false, .int .i64 0, .int .i64 0, .string (⟨#[]⟩ : ByteArray)] 26 (0, 0))) ∧ (w'.heap[s_.2]? = some (.cells #[.bool false, .int .i64 0, .int .i64 0, .string (⟨#[]⟩ : ByteArray)] 26 (0, 0))) ∧ (w.heap.size ≤ s_.1) ∧ (w.heap.size ≤ s_.1) ∧ (gb155 ≠ s_.1) ∧ (s_.1 ≠ gb155) ∧ (gb165 ≠ s_.1) ∧ (s_.1 ≠ gb165) ∧ (s_.2 ≠ s_.1) ∧ (s_.1 ≠ s_.2) ∧ (w.heap.size ≤ s_.2) ∧ (w.heap.size ≤ s_.2) ∧ (gb155 ≠ s_.2) ∧ (s_.2 ≠ gb155) ∧ (gb165 ≠ s_.2) ∧ (s_.2 ≠ gb165) ∧ (Below w.heap.size w w')) ?_ ?_
                                rotate_left
                                · intro hJ14_15
                                  refine join_ (σ := Unit) 4 #[true, true, true, true, true, true, true, true, true, true, true, true, true, true, false, false, false, false] (fun s_ => [(51, .tuple #[.agg #[.bool t168, .int .i64 t169, .int .i64 t170, .string t171], .agg #[.bool t172, .int .i64 t173, .int .i64 t174, .string t175]]), (40, .tuple #[.agg #[.bool t168, .int .i64 t169, .int .i64 t170, .string t171], .agg #[.bool t172, .int .i64 t173, .int .i64 t174, .string t175]]), (52, .agg #[.bool t168, .int .i64 t169, .int .i64 t170, .string t171]), (53, .agg #[.bool t172, .int .i64 t173, .int .i64 t174, .string t175])]) (fun s_ w' => (w'.cell? ⟨gb165, 0, none⟩ = some (.int .i64 ((rd_T87 l0_1 x6_2).f0)) ∧ w'.cell? ⟨gb165, 1, none⟩ = some (.int .i64 ((rd_T87 l0_1 x6_2).f1)) ∧ w'.cell? (ad166.add ((((rd_T87 l0_1 x6_2).f0)).toNat * 4)) = some (.bool ((rd_T26 x5_2 ((rd_T87 l0_1 x6_2).f0)).f0)) ∧ w'.cell? ⟨(ad166.add ((((rd_T87 l0_1 x6_2).f0)).toNat * 4)).block, (ad166.add ((((rd_T87 l0_1 x6_2).f0)).toNat * 4)).off + 1, none⟩ = some (.int .i64 ((rd_T26 x5_2 ((rd_T87 l0_1 x6_2).f0)).f1)) ∧ w'.cell? ⟨(ad166.add ((((rd_T87 l0_1 x6_2).f0)).toNat * 4)).block, (ad166.add ((((rd_T87 l0_1 x6_2).f0)).toNat * 4)).off + 2, none⟩ = some (.int .i64 ((rd_T26 x5_2 ((rd_T87 l0_1 x6_2).f0)).f2)) ∧ w'.cell? ⟨(ad166.add ((((rd_T87 l0_1 x6_2).f0)).toNat * 4)).block, (ad166.add ((((rd_T87 l0_1 x6_2).f0)).toNat * 4)).off + 3, none⟩ = some (.string ((rd_T26 x5_2 ((rd_T87 l0_1 x6_2).f0)).f3)) ∧ w'.cell? (ad166.add ((((rd_T87 l0_1 x6_2).f1)).toNat * 4)) = some (.bool ((rd_T26 x5_2 ((rd_T87 l0_1 x6_2).f1)).f0)) ∧ w'.cell? ⟨(ad166.add ((((rd_T87 l0_1 x6_2).f1)).toNat * 4)).block, (ad166.add ((((rd_T87 l0_1 x6_2).f1)).toNat * 4)).off + 1, none⟩ = some (.int .i64 ((rd_T26 x5_2 ((rd_T87 l0_1 x6_2).f1)).f1)) ∧ w'.cell? ⟨(ad166.add ((((rd_T87 l0_1 x6_2).f1)).toNat * 4)).block, (ad166.add ((((rd_T87 l0_1 x6_2).f1)).toNat * 4)).off + 2, none⟩ = some (.int .i64 ((rd_T26 x5_2 ((rd_T87 l0_1 x6_2).f1)).f2)) ∧ w'.cell? ⟨(ad166.add ((((rd_T87 l0_1 x6_2).f1)).toNat * 4)).block, (ad166.add ((((rd_T87 l0_1 x6_2).f1)).toNat * 4)).off + 3, none⟩ = some (.string ((rd_T26 x5_2 ((rd_T87 l0_1 x6_2).f1)).f3))) ∧ (Kd.R k26 26 w' w.heap.size (fun _ => True) (.slice (some ad166) x5_2.length co38) x5_2) ∧ (w'.heap[gb155]? = some (.cells #[.int .i64 a0_0, .slice (some ad164) l0_1.length c0_1] 59 (0, 0))) ∧ (w'.heap[gb165]? = some (.cells #[.int .i64 ((rd_T87 l0_1 x6_2).f0), .int .i64 ((rd_T87 l0_1 x6_2).f1)] 87 (0, 0))) ∧ (Below w.heap.size w w')) ?_ ?_
                                  rotate_left
                                  · intro hJ10
                                    refine join_ (σ := Nat) 7 #[true, true, true, true, true, true, true, true, true, true, false, false, false, false, true, false, false, false] (fun s_ => [(8, .pointer (some ⟨s_, 0, none⟩))]) (fun s_ w' => (w'.cell? ⟨gb165, 0, none⟩ = some (.int .i64 ((rd_T87 l0_1 x6_2).f0)) ∧ w'.cell? ⟨gb165, 1, none⟩ = some (.int .i64 ((rd_T87 l0_1 x6_2).f1)) ∧ w'.cell? (ad166.add ((((rd_T87 l0_1 x6_2).f0)).toNat * 4)) = some (.bool ((rd_T26 x5_2 ((rd_T87 l0_1 x6_2).f0)).f0)) ∧ w'.cell? ⟨(ad166.add ((((rd_T87 l0_1 x6_2).f0)).toNat * 4)).block, (ad166.add ((((rd_T87 l0_1 x6_2).f0)).toNat * 4)).off + 1, none⟩ = some (.int .i64 ((rd_T26 x5_2 ((rd_T87 l0_1 x6_2).f0)).f1)) ∧ w'.cell? ⟨(ad166.add ((((rd_T87 l0_1 x6_2).f0)).toNat * 4)).block, (ad166.add ((((rd_T87 l0_1 x6_2).f0)).toNat * 4)).off + 2, none⟩ = some (.int .i64 ((rd_T26 x5_2 ((rd_T87 l0_1 x6_2).f0)).f2)) ∧ w'.cell? ⟨(ad166.add ((((rd_T87 l0_1 x6_2).f0)).toNat * 4)).block, (ad166.add ((((rd_T87 l0_1 x6_2).f0)).toNat * 4)).off + 3, none⟩ = some (.string ((rd_T26 x5_2 ((rd_T87 l0_1 x6_2).f0)).f3)) ∧ w'.cell? (ad166.add ((((rd_T87 l0_1 x6_2).f1)).toNat * 4)) = some (.bool ((rd_T26 x5_2 ((rd_T87 l0_1 x6_2).f1)).f0)) ∧ w'.cell? ⟨(ad166.add ((((rd_T87 l0_1 x6_2).f1)).toNat * 4)).block, (ad166.add ((((rd_T87 l0_1 x6_2).f1)).toNat * 4)).off + 1, none⟩ = some (.int .i64 ((rd_T26 x5_2 ((rd_T87 l0_1 x6_2).f1)).f1)) ∧ w'.cell? ⟨(ad166.add ((((rd_T87 l0_1 x6_2).f1)).toNat * 4)).block, (ad166.add ((((rd_T87 l0_1 x6_2).f1)).toNat * 4)).off + 2, none⟩ = some (.int .i64 ((rd_T26 x5_2 ((rd_T87 l0_1 x6_2).f1)).f2)) ∧ w'.cell? ⟨(ad166.add ((((rd_T87 l0_1 x6_2).f1)).toNat * 4)).block, (ad166.add ((((rd_T87 l0_1 x6_2).f1)).toNat * 4)).off + 3, none⟩ = some (.string ((rd_T26 x5_2 ((rd_T87 l0_1 x6_2).f1)).f3))) ∧ (Kd.R k26 26 w' w.heap.size (fun k_ => k_ ≠ s_) (.slice (some ad166) x5_2.length co38) x5_2) ∧ (w'.heap[gb155]? = some (.cells #[.int .i64 a0_0, .slice (some ad164) l0_1.length c0_1] 59 (0, 0))) ∧ (w'.heap[gb165]? = some (.cells #[.int .i64 ((rd_T87 l0_1 x6_2).f0), .int .i64 ((rd_T87 l0_1 x6_2).f1)] 87 (0, 0))) ∧ (w'.heap[s_]? = some (.cells #[.bool false, .int .i64 0, .int .i64 0, .string (⟨#[]⟩ : ByteArray)] 26 (0, 0))) ∧ (w.heap.size ≤ s_) ∧ (w.heap.size ≤ s_) ∧ (gb155 ≠ s_) ∧ (s_ ≠ gb155) ∧ (gb165 ≠ s_) ∧ (s_ ≠ gb165) ∧ (Below w.heap.size w w')) ?_ ?_
                                    rotate_left
                                    · intro hJ14
                                      refine join_ (σ := Nat) 7 #[true, true, true, true, true, true, true, true, true, true, false, false, false, false, false, true, false, false] (fun s_ => [(9, .pointer (some ⟨s_, 0, none⟩))]) (fun s_ w' => (w'.cell? ⟨gb165, 0, none⟩ = some (.int .i64 ((rd_T87 l0_1 x6_2).f0)) ∧ w'.cell? ⟨gb165, 1, none⟩ = some (.int .i64 ((rd_T87 l0_1 x6_2).f1)) ∧ w'.cell? (ad166.add ((((rd_T87 l0_1 x6_2).f0)).toNat * 4)) = some (.bool ((rd_T26 x5_2 ((rd_T87 l0_1 x6_2).f0)).f0)) ∧ w'.cell? ⟨(ad166.add ((((rd_T87 l0_1 x6_2).f0)).toNat * 4)).block, (ad166.add ((((rd_T87 l0_1 x6_2).f0)).toNat * 4)).off + 1, none⟩ = some (.int .i64 ((rd_T26 x5_2 ((rd_T87 l0_1 x6_2).f0)).f1)) ∧ w'.cell? ⟨(ad166.add ((((rd_T87 l0_1 x6_2).f0)).toNat * 4)).block, (ad166.add ((((rd_T87 l0_1 x6_2).f0)).toNat * 4)).off + 2, none⟩ = some (.int .i64 ((rd_T26 x5_2 ((rd_T87 l0_1 x6_2).f0)).f2)) ∧ w'.cell? ⟨(ad166.add ((((rd_T87 l0_1 x6_2).f0)).toNat * 4)).block, (ad166.add ((((rd_T87 l0_1 x6_2).f0)).toNat * 4)).off + 3, none⟩ = some (.string ((rd_T26 x5_2 ((rd_T87 l0_1 x6_2).f0)).f3)) ∧ w'.cell? (ad166.add ((((rd_T87 l0_1 x6_2).f1)).toNat * 4)) = some (.bool ((rd_T26 x5_2 ((rd_T87 l0_1 x6_2).f1)).f0)) ∧ w'.cell? ⟨(ad166.add ((((rd_T87 l0_1 x6_2).f1)).toNat * 4)).block, (ad166.add ((((rd_T87 l0_1 x6_2).f1)).toNat * 4)).off + 1, none⟩ = some (.int .i64 ((rd_T26 x5_2 ((rd_T87 l0_1 x6_2).f1)).f1)) ∧ w'.cell? ⟨(ad166.add ((((rd_T87 l0_1 x6_2).f1)).toNat * 4)).block, (ad166.add ((((rd_T87 l0_1 x6_2).f1)).toNat * 4)).off + 2, none⟩ = some (.int .i64 ((rd_T26 x5_2 ((rd_T87 l0_1 x6_2).f1)).f2)) ∧ w'.cell? ⟨(ad166.add ((((rd_T87 l0_1 x6_2).f1)).toNat * 4)).block, (ad166.add ((((rd_T87 l0_1 x6_2).f1)).toNat * 4)).off + 3, none⟩ = some (.string ((rd_T26 x5_2 ((rd_T87 l0_1 x6_2).f1)).f3))) ∧ (Kd.R k26 26 w' w.heap.size (fun k_ => k_ ≠ s_) (.slice (some ad166) x5_2.length co38) x5_2) ∧ (w'.heap[gb155]? = some (.cells #[.int .i64 a0_0, .slice (some ad164) l0_1.length c0_1] 59 (0, 0))) ∧ (w'.heap[gb165]? = some (.cells #[.int .i64 ((rd_T87 l0_1 x6_2).f0), .int .i64 ((rd_T87 l0_1 x6_2).f1)] 87 (0, 0))) ∧ (w'.heap[s_]? = some (.cells #[.bool false, .int .i64 0, .int .i64 0, .string (⟨#[]⟩ : ByteArray)] 26 (0, 0))) ∧ (w.heap.size ≤ s_) ∧ (w.heap.size ≤ s_) ∧ (gb155 ≠ s_) ∧ (s_ ≠ gb155) ∧ (gb165 ≠ s_) ∧ (s_ ≠ gb165) ∧ (Below w.heap.size w w')) ?_ ?_
                                      rotate_left
                                      · intro hJ15
                                        refine three_ (i := 10) (j := 14) (k := 15) (Ni := some 51) (Nj := some 8) (Nk := some 9) #[true, true, true, true, true, true, true, true, true, true, true, false, false, false, false, false, false, false] #[true, true, true, true, true, true, true, true, true, true, false, false, false, false, true, false, false, false] #[true, true, true, true, true, true, true, true, true, true, false, false, false, false, false, true, false, false] rfl rfl rfl rfl rfl rfl (three_of HT_.out (by kernel_rfl)) (by decide) (by decide) (by decide) (fun K hK => ?_) (fun K hK => ?_) (fun K hK => ?_)
                                        · skip
                                          refine goes_ Try.func33 (by kernel_rfl) rfl #[.agg #[.bool ((rd_T26 x5_2 ((rd_T87 l0_1 x6_2).f0)).f0), .int .i64 ((rd_T26 x5_2 ((rd_T87 l0_1 x6_2).f0)).f1), .int .i64 ((rd_T26 x5_2 ((rd_T87 l0_1 x6_2).f0)).f2), .string ((rd_T26 x5_2 ((rd_T87 l0_1 x6_2).f0)).f3)], .agg #[.bool ((rd_T26 x5_2 ((rd_T87 l0_1 x6_2).f1)).f0), .int .i64 ((rd_T26 x5_2 ((rd_T87 l0_1 x6_2).f1)).f1), .int .i64 ((rd_T26 x5_2 ((rd_T87 l0_1 x6_2).f1)).f2), .string ((rd_T26 x5_2 ((rd_T87 l0_1 x6_2).f1)).f3)]] (by rfl) rfl rfl (by (try simp only [List.map_toArray, List.map_cons, List.map_nil]); first | done | rfl | (simp only [List.length_drop, List.length_take]; rfl)) ?_
                                          with_reducible refine (spec_RecPair.calls k2 ((rd_T26 x5_2 ((rd_T87 l0_1 x6_2).f0)).f0) ((rd_T26 x5_2 ((rd_T87 l0_1 x6_2).f0)).f1) ((rd_T26 x5_2 ((rd_T87 l0_1 x6_2).f0)).f2) ((rd_T26 x5_2 ((rd_T87 l0_1 x6_2).f0)).f3) ((rd_T26 x5_2 ((rd_T87 l0_1 x6_2).f1)).f0) ((rd_T26 x5_2 ((rd_T87 l0_1 x6_2).f1)).f1) ((rd_T26 x5_2 ((rd_T87 l0_1 x6_2).f1)).f2) ((rd_T26 x5_2 ((rd_T87 l0_1 x6_2).f1)).f3) t168 t169 t170 t171 t172 t173 t174 t175 _ A29.out).mono ?_
                                          rintro e w39 ⟨rfl, hb⟩
                                          have HS2_ := (hb.cell (World.block_lt_of_cell? _ _ (hHeld.2.2.1))).trans (hHeld.2.2.1)
                                          have HS3_ := (hb.cell (World.block_lt_of_cell? _ _ (hHeld.2.2.2.1))).trans (hHeld.2.2.2.1)
                                          have HS4_ := (hb.cell (World.block_lt_of_cell? _ _ (hHeld.2.2.2.2.1))).trans (hHeld.2.2.2.2.1)
                                          have HS5_ := (hb.cell (World.block_lt_of_cell? _ _ (hHeld.2.2.2.2.2.1))).trans (hHeld.2.2.2.2.2.1)
                                          have HS6_ := (hb.cell (World.block_lt_of_cell? _ _ (hHeld.2.2.2.2.2.2.1))).trans (hHeld.2.2.2.2.2.2.1)
                                          have HS7_ := (hb.cell (World.block_lt_of_cell? _ _ (hHeld.2.2.2.2.2.2.2.1))).trans (hHeld.2.2.2.2.2.2.2.1)
                                          have HS8_ := (hb.cell (World.block_lt_of_cell? _ _ (hHeld.2.2.2.2.2.2.2.2.1))).trans (hHeld.2.2.2.2.2.2.2.2.1)
                                          have HS9_ := (hb.cell (World.block_lt_of_cell? _ _ (hHeld.2.2.2.2.2.2.2.2.2))).trans (hHeld.2.2.2.2.2.2.2.2.2)
                                          refine ⟨_, rfl, ?_⟩
                                          have n0_ := Aside0.mk (Kd.R_below (by (with_reducible repeat (first | apply Kd.R_alloc | apply Kd.R_drewN | apply Kd.R_drew)); exact HO_5.out) hb)
                                          have n1_ := Aside0.mk (blk_below (g := gb155) (o := .cells #[.int .i64 a0_0, .slice (some ad164) l0_1.length c0_1] 59 (0, 0)) (by (with_reducible repeat (first | refine blk_drewN ?_ _ | refine blk_drew ?_ | refine blk_alloc ?_ _)); exact BK155.out) hb)
                                          have n2_ := Aside0.mk (blk_below (g := gb165) (o := .cells #[.int .i64 ((rd_T87 l0_1 x6_2).f0), .int .i64 ((rd_T87 l0_1 x6_2).f1)] 87 (0, 0)) (by (with_reducible repeat (first | refine blk_drewN ?_ _ | refine blk_drew ?_ | refine blk_alloc ?_ _)); exact BK165.out) hb)
                                          have n3_ := Aside0.mk (below_step (by repeat (first | (with_reducible first | exact HB.out | apply below_alloc | apply pw_below_drewN | apply below_drew1 | refine below_set ?_ GE155.out | refine below_set ?_ GE165.out) | exact HB.out)) hb)
                                          clear HO_5
                                          clear BK155
                                          clear BK165
                                          clear HB
                                          have HO_5 := n0_
                                          have BK155 := n1_
                                          have BK165 := n2_
                                          have HB := n3_
                                          clear n0_ n1_ n2_ n3_
                                          (try clear hb)
                                          (try clear hb2)
                                          (try clear hk)
                                          (try clear hi)
                                          refine hK.out _ _ ⟨(blk_cell BK165.out 0).trans rfl, (blk_cell BK165.out 1).trans rfl, HS2_, HS3_, HS4_, HS5_, HS6_, HS7_, HS8_, HS9_⟩ (fun hHeld => ?_)
                                          clear hK K
                                          refine norm_ (a' := ?_) ?_ ?_
                                          rotate_left
                                          · show Act.put _ (some 51) _ = _
                                            simp only [Act.put, List.setIfInBounds_toArray, List.set_cons_zero, List.set_cons_succ, i64_w, i32_w]
                                            rfl
                                          refine pure_ (i := 11) (N := some 40) (v := ?_) (a' := ?_) #[true, true, true, true, true, true, true, true, true, true, true, true, false, false, false, false, false, false] rfl rfl (any_of HT_.out (by kernel_rfl)) (fun _ _ _ h => h) (Or.inl ⟨by rfl, ?_⟩) ?_ ?_
                                          rotate_left
                                          · intro w'
                                            go_simp
                                            with_reducible rfl
                                          rotate_left
                                          · simp only [Act.put, List.setIfInBounds_toArray, List.set_cons_zero, List.set_cons_succ, i64_w, i32_w]
                                            rfl
                                          refine pure_ (i := 12) (N := some 52) (v := ?_) (a' := ?_) #[true, true, true, true, true, true, true, true, true, true, true, true, true, false, false, false, false, false] rfl rfl (any_of HT_.out (by kernel_rfl)) (fun _ _ _ h => h) (Or.inl ⟨by rfl, ?_⟩) ?_ ?_
                                          rotate_left
                                          · intro w'
                                            go_simp
                                            with_reducible rfl
                                          rotate_left
                                          · simp only [Act.put, List.setIfInBounds_toArray, List.set_cons_zero, List.set_cons_succ, i64_w, i32_w]
                                            rfl
                                          refine pure_ (i := 13) (N := some 53) (v := ?_) (a' := ?_) #[true, true, true, true, true, true, true, true, true, true, true, true, true, true, false, false, false, false] rfl rfl (any_of HT_.out (by kernel_rfl)) (fun _ _ _ h => h) (Or.inl ⟨by rfl, ?_⟩) ?_ ?_
                                          rotate_left
                                          · intro w'
                                            go_simp
                                            with_reducible rfl
                                          rotate_left
                                          · simp only [Act.put, List.setIfInBounds_toArray, List.set_cons_zero, List.set_cons_succ, i64_w, i32_w]
                                            rfl
                                          exact norm_ (by first | (simp only [putAll, Act.put, List.setIfInBounds_toArray, List.set_cons_zero, List.set_cons_succ]; done) | (simp only [putAll, Act.put, List.setIfInBounds_toArray, List.set_cons_zero, List.set_cons_succ]; rfl)) (hJ10 () _ ⟨hHeld, (by (with_reducible repeat (first | apply Kd.R_alloc | apply Kd.R_drewN | apply Kd.R_drew)); exact HO_5.out), (by (with_reducible repeat (first | refine blk_drewN ?_ _ | refine blk_drew ?_ | refine blk_alloc ?_ _)); exact BK155.out), (by (with_reducible repeat (first | refine blk_drewN ?_ _ | refine blk_drew ?_ | refine blk_alloc ?_ _)); exact BK165.out), (by repeat (first | (with_reducible first | exact HB.out | apply below_alloc | apply pw_below_drewN | apply below_drew1 | refine below_set ?_ GE155.out | refine below_set ?_ GE165.out) | exact HB.out))⟩)
                                        · skip
                                          refine box_step ?hg (N := 8) ?hd (cs := #[.bool false, .int .i64 0, .int .i64 0, .string (⟨#[]⟩ : ByteArray)]) (t := 26) ?hr ?_; (case hd => rfl); (case hg => rfl); (case hr => first | (go_simp; done) | (go_simp; rfl))
                                          intro gb176 hg w39 hbox hb
                                          have HS2_ := (hb.cell (World.block_lt_of_cell? _ _ (hHeld.2.2.1))).trans (hHeld.2.2.1)
                                          have HS3_ := (hb.cell (World.block_lt_of_cell? _ _ (hHeld.2.2.2.1))).trans (hHeld.2.2.2.1)
                                          have HS4_ := (hb.cell (World.block_lt_of_cell? _ _ (hHeld.2.2.2.2.1))).trans (hHeld.2.2.2.2.1)
                                          have HS5_ := (hb.cell (World.block_lt_of_cell? _ _ (hHeld.2.2.2.2.2.1))).trans (hHeld.2.2.2.2.2.1)
                                          have HS6_ := (hb.cell (World.block_lt_of_cell? _ _ (hHeld.2.2.2.2.2.2.1))).trans (hHeld.2.2.2.2.2.2.1)
                                          have HS7_ := (hb.cell (World.block_lt_of_cell? _ _ (hHeld.2.2.2.2.2.2.2.1))).trans (hHeld.2.2.2.2.2.2.2.1)
                                          have HS8_ := (hb.cell (World.block_lt_of_cell? _ _ (hHeld.2.2.2.2.2.2.2.2.1))).trans (hHeld.2.2.2.2.2.2.2.2.1)
                                          have HS9_ := (hb.cell (World.block_lt_of_cell? _ _ (hHeld.2.2.2.2.2.2.2.2.2))).trans (hHeld.2.2.2.2.2.2.2.2.2)
                                          have n0_ := Aside0.mk (Kd.R_below (Kd.R_elderB (by (with_reducible repeat (first | apply Kd.R_alloc | apply Kd.R_drewN | apply Kd.R_drew)); exact HO_5.out) gb176 (Nat.le_of_eq hg.symm)) hb)
                                          have n1_ := Aside0.mk (blk_below (g := gb155) (o := .cells #[.int .i64 a0_0, .slice (some ad164) l0_1.length c0_1] 59 (0, 0)) (by (with_reducible repeat (first | refine blk_drewN ?_ _ | refine blk_drew ?_ | refine blk_alloc ?_ _)); exact BK155.out) hb)
                                          have n2_ := Aside0.mk (blk_below (g := gb165) (o := .cells #[.int .i64 ((rd_T87 l0_1 x6_2).f0), .int .i64 ((rd_T87 l0_1 x6_2).f1)] 87 (0, 0)) (by (with_reducible repeat (first | refine blk_drewN ?_ _ | refine blk_drew ?_ | refine blk_alloc ?_ _)); exact BK165.out) hb)
                                          have n3_ := Aside0.mk (below_step (by repeat (first | (with_reducible first | exact HB.out | apply below_alloc | apply pw_below_drewN | apply below_drew1 | refine below_set ?_ GE155.out | refine below_set ?_ GE165.out) | exact HB.out)) hb)
                                          have n4_ := Aside0.mk (hbox)
                                          have n5_ := Aside0.mk ((by rw [hg]; exact (below_size (by repeat (first | (with_reducible first | exact HB.out | apply below_alloc | apply pw_below_drewN | apply below_drew1 | refine below_set ?_ GE155.out | refine below_set ?_ GE165.out) | exact HB.out))) : w.heap.size ≤ gb176))
                                          have n6_ := Aside0.mk ((by rw [hg]; exact (below_size (by repeat (first | (with_reducible first | exact HB.out | apply below_alloc | apply pw_below_drewN | apply below_drew1 | refine below_set ?_ GE155.out | refine below_set ?_ GE165.out) | exact HB.out))) : w.heap.size ≤ gb176))
                                          have n7_ := Aside0.mk ((by rw [hg]; exact Nat.ne_of_lt (blk_lt (g := gb155) (o := .cells #[.int .i64 a0_0, .slice (some ad164) l0_1.length c0_1] 59 (0, 0)) (by (with_reducible repeat (first | refine blk_drewN ?_ _ | refine blk_drew ?_ | refine blk_alloc ?_ _)); exact BK155.out)) : gb155 ≠ gb176))
                                          have n8_ := Aside0.mk ((by rw [hg]; exact Nat.ne_of_gt (blk_lt (g := gb155) (o := .cells #[.int .i64 a0_0, .slice (some ad164) l0_1.length c0_1] 59 (0, 0)) (by (with_reducible repeat (first | refine blk_drewN ?_ _ | refine blk_drew ?_ | refine blk_alloc ?_ _)); exact BK155.out)) : gb176 ≠ gb155))
                                          have n9_ := Aside0.mk ((by rw [hg]; exact Nat.ne_of_lt (blk_lt (g := gb165) (o := .cells #[.int .i64 ((rd_T87 l0_1 x6_2).f0), .int .i64 ((rd_T87 l0_1 x6_2).f1)] 87 (0, 0)) (by (with_reducible repeat (first | refine blk_drewN ?_ _ | refine blk_drew ?_ | refine blk_alloc ?_ _)); exact BK165.out)) : gb165 ≠ gb176))
                                          have n10_ := Aside0.mk ((by rw [hg]; exact Nat.ne_of_gt (blk_lt (g := gb165) (o := .cells #[.int .i64 ((rd_T87 l0_1 x6_2).f0), .int .i64 ((rd_T87 l0_1 x6_2).f1)] 87 (0, 0)) (by (with_reducible repeat (first | refine blk_drewN ?_ _ | refine blk_drew ?_ | refine blk_alloc ?_ _)); exact BK165.out)) : gb176 ≠ gb165))
                                          clear HO_5
                                          clear BK155
                                          clear BK165
                                          clear HB
                                          have HO_5 := n0_
                                          have BK155 := n1_
                                          have BK165 := n2_
                                          have HB := n3_
                                          have BK176 := n4_
                                          have GW176 := n5_
                                          have GE176 := n6_
                                          have NB155_176 := n7_
                                          have NB176_155 := n8_
                                          have NB165_176 := n9_
                                          have NB176_165 := n10_
                                          clear n0_ n1_ n2_ n3_ n4_ n5_ n6_ n7_ n8_ n9_ n10_
                                          clear hb hbox hg
                                          refine hK.out _ _ ⟨(blk_cell BK165.out 0).trans rfl, (blk_cell BK165.out 1).trans rfl, HS2_, HS3_, HS4_, HS5_, HS6_, HS7_, HS8_, HS9_⟩ (fun hHeld => ?_)
                                          clear hK K
                                          refine norm_ (a' := ?_) ?_ ?_
                                          rotate_left
                                          · show Act.put _ (some 8) _ = _
                                            simp only [Act.put, List.setIfInBounds_toArray, List.set_cons_zero, List.set_cons_succ, i64_w, i32_w]
                                            rfl
                                          exact norm_ (by first | (simp only [putAll, Act.put, List.setIfInBounds_toArray, List.set_cons_zero, List.set_cons_succ]; done) | (simp only [putAll, Act.put, List.setIfInBounds_toArray, List.set_cons_zero, List.set_cons_succ]; rfl)) (hJ14 (gb176) _ ⟨hHeld, (by (with_reducible repeat (first | apply Kd.R_alloc | apply Kd.R_drewN | apply Kd.R_drew)); exact Kd.R_mono HO_5.out (fun _ hk => by first | exact hk.2 | trivial)), (by (with_reducible repeat (first | refine blk_drewN ?_ _ | refine blk_drew ?_ | refine blk_alloc ?_ _)); exact BK155.out), (by (with_reducible repeat (first | refine blk_drewN ?_ _ | refine blk_drew ?_ | refine blk_alloc ?_ _)); exact BK165.out), (by (with_reducible repeat (first | refine blk_drewN ?_ _ | refine blk_drew ?_ | refine blk_alloc ?_ _)); exact BK176.out), GW176.out, GE176.out, NB155_176.out, NB176_155.out, NB165_176.out, NB176_165.out, (by repeat (first | (with_reducible first | exact HB.out | apply below_alloc | apply pw_below_drewN | apply below_drew1 | refine below_set ?_ GE155.out | refine below_set ?_ GE165.out | refine below_set ?_ GE176.out) | exact HB.out))⟩)
                                        · skip
                                          refine box_step ?hg (N := 9) ?hd (cs := #[.bool false, .int .i64 0, .int .i64 0, .string (⟨#[]⟩ : ByteArray)]) (t := 26) ?hr ?_; (case hd => rfl); (case hg => rfl); (case hr => first | (go_simp; done) | (go_simp; rfl))
                                          intro gb177 hg w39 hbox hb
                                          have HS2_ := (hb.cell (World.block_lt_of_cell? _ _ (hHeld.2.2.1))).trans (hHeld.2.2.1)
                                          have HS3_ := (hb.cell (World.block_lt_of_cell? _ _ (hHeld.2.2.2.1))).trans (hHeld.2.2.2.1)
                                          have HS4_ := (hb.cell (World.block_lt_of_cell? _ _ (hHeld.2.2.2.2.1))).trans (hHeld.2.2.2.2.1)
                                          have HS5_ := (hb.cell (World.block_lt_of_cell? _ _ (hHeld.2.2.2.2.2.1))).trans (hHeld.2.2.2.2.2.1)
                                          have HS6_ := (hb.cell (World.block_lt_of_cell? _ _ (hHeld.2.2.2.2.2.2.1))).trans (hHeld.2.2.2.2.2.2.1)
                                          have HS7_ := (hb.cell (World.block_lt_of_cell? _ _ (hHeld.2.2.2.2.2.2.2.1))).trans (hHeld.2.2.2.2.2.2.2.1)
                                          have HS8_ := (hb.cell (World.block_lt_of_cell? _ _ (hHeld.2.2.2.2.2.2.2.2.1))).trans (hHeld.2.2.2.2.2.2.2.2.1)
                                          have HS9_ := (hb.cell (World.block_lt_of_cell? _ _ (hHeld.2.2.2.2.2.2.2.2.2))).trans (hHeld.2.2.2.2.2.2.2.2.2)
                                          have n0_ := Aside0.mk (Kd.R_below (Kd.R_elderB (by (with_reducible repeat (first | apply Kd.R_alloc | apply Kd.R_drewN | apply Kd.R_drew)); exact HO_5.out) gb177 (Nat.le_of_eq hg.symm)) hb)
                                          have n1_ := Aside0.mk (blk_below (g := gb155) (o := .cells #[.int .i64 a0_0, .slice (some ad164) l0_1.length c0_1] 59 (0, 0)) (by (with_reducible repeat (first | refine blk_drewN ?_ _ | refine blk_drew ?_ | refine blk_alloc ?_ _)); exact BK155.out) hb)
                                          have n2_ := Aside0.mk (blk_below (g := gb165) (o := .cells #[.int .i64 ((rd_T87 l0_1 x6_2).f0), .int .i64 ((rd_T87 l0_1 x6_2).f1)] 87 (0, 0)) (by (with_reducible repeat (first | refine blk_drewN ?_ _ | refine blk_drew ?_ | refine blk_alloc ?_ _)); exact BK165.out) hb)
                                          have n3_ := Aside0.mk (below_step (by repeat (first | (with_reducible first | exact HB.out | apply below_alloc | apply pw_below_drewN | apply below_drew1 | refine below_set ?_ GE155.out | refine below_set ?_ GE165.out) | exact HB.out)) hb)
                                          have n4_ := Aside0.mk (hbox)
                                          have n5_ := Aside0.mk ((by rw [hg]; exact (below_size (by repeat (first | (with_reducible first | exact HB.out | apply below_alloc | apply pw_below_drewN | apply below_drew1 | refine below_set ?_ GE155.out | refine below_set ?_ GE165.out) | exact HB.out))) : w.heap.size ≤ gb177))
                                          have n6_ := Aside0.mk ((by rw [hg]; exact (below_size (by repeat (first | (with_reducible first | exact HB.out | apply below_alloc | apply pw_below_drewN | apply below_drew1 | refine below_set ?_ GE155.out | refine below_set ?_ GE165.out) | exact HB.out))) : w.heap.size ≤ gb177))
                                          have n7_ := Aside0.mk ((by rw [hg]; exact Nat.ne_of_lt (blk_lt (g := gb155) (o := .cells #[.int .i64 a0_0, .slice (some ad164) l0_1.length c0_1] 59 (0, 0)) (by (with_reducible repeat (first | refine blk_drewN ?_ _ | refine blk_drew ?_ | refine blk_alloc ?_ _)); exact BK155.out)) : gb155 ≠ gb177))
                                          have n8_ := Aside0.mk ((by rw [hg]; exact Nat.ne_of_gt (blk_lt (g := gb155) (o := .cells #[.int .i64 a0_0, .slice (some ad164) l0_1.length c0_1] 59 (0, 0)) (by (with_reducible repeat (first | refine blk_drewN ?_ _ | refine blk_drew ?_ | refine blk_alloc ?_ _)); exact BK155.out)) : gb177 ≠ gb155))
                                          have n9_ := Aside0.mk ((by rw [hg]; exact Nat.ne_of_lt (blk_lt (g := gb165) (o := .cells #[.int .i64 ((rd_T87 l0_1 x6_2).f0), .int .i64 ((rd_T87 l0_1 x6_2).f1)] 87 (0, 0)) (by (with_reducible repeat (first | refine blk_drewN ?_ _ | refine blk_drew ?_ | refine blk_alloc ?_ _)); exact BK165.out)) : gb165 ≠ gb177))
                                          have n10_ := Aside0.mk ((by rw [hg]; exact Nat.ne_of_gt (blk_lt (g := gb165) (o := .cells #[.int .i64 ((rd_T87 l0_1 x6_2).f0), .int .i64 ((rd_T87 l0_1 x6_2).f1)] 87 (0, 0)) (by (with_reducible repeat (first | refine blk_drewN ?_ _ | refine blk_drew ?_ | refine blk_alloc ?_ _)); exact BK165.out)) : gb177 ≠ gb165))
                                          clear HO_5
                                          clear BK155
                                          clear BK165
                                          clear HB
                                          have HO_5 := n0_
                                          have BK155 := n1_
                                          have BK165 := n2_
                                          have HB := n3_
                                          have BK177 := n4_
                                          have GW177 := n5_
                                          have GE177 := n6_
                                          have NB155_177 := n7_
                                          have NB177_155 := n8_
                                          have NB165_177 := n9_
                                          have NB177_165 := n10_
                                          clear n0_ n1_ n2_ n3_ n4_ n5_ n6_ n7_ n8_ n9_ n10_
                                          clear hb hbox hg
                                          refine hK.out _ _ ⟨(blk_cell BK165.out 0).trans rfl, (blk_cell BK165.out 1).trans rfl, HS2_, HS3_, HS4_, HS5_, HS6_, HS7_, HS8_, HS9_⟩ (fun hHeld => ?_)
                                          clear hK K
                                          refine norm_ (a' := ?_) ?_ ?_
                                          rotate_left
                                          · show Act.put _ (some 9) _ = _
                                            simp only [Act.put, List.setIfInBounds_toArray, List.set_cons_zero, List.set_cons_succ, i64_w, i32_w]
                                            rfl
                                          exact norm_ (by first | (simp only [putAll, Act.put, List.setIfInBounds_toArray, List.set_cons_zero, List.set_cons_succ]; done) | (simp only [putAll, Act.put, List.setIfInBounds_toArray, List.set_cons_zero, List.set_cons_succ]; rfl)) (hJ15 (gb177) _ ⟨hHeld, (by (with_reducible repeat (first | apply Kd.R_alloc | apply Kd.R_drewN | apply Kd.R_drew)); exact Kd.R_mono HO_5.out (fun _ hk => by first | exact hk.2 | trivial)), (by (with_reducible repeat (first | refine blk_drewN ?_ _ | refine blk_drew ?_ | refine blk_alloc ?_ _)); exact BK155.out), (by (with_reducible repeat (first | refine blk_drewN ?_ _ | refine blk_drew ?_ | refine blk_alloc ?_ _)); exact BK165.out), (by (with_reducible repeat (first | refine blk_drewN ?_ _ | refine blk_drew ?_ | refine blk_alloc ?_ _)); exact BK177.out), GW177.out, GE177.out, NB155_177.out, NB177_155.out, NB165_177.out, NB177_165.out, (by repeat (first | (with_reducible first | exact HB.out | apply below_alloc | apply pw_below_drewN | apply below_drew1 | refine below_set ?_ GE155.out | refine below_set ?_ GE165.out | refine below_set ?_ GE177.out) | exact HB.out))⟩)
                                      · skip
                                        rintro gb177 w40 ⟨hS_, h0_, h1_, h2_, h3_, h4_, h5_, h6_, h7_, h8_, h9_, h10_⟩
                                        have n0_ : Aside0 (Kd.R k26 26 w40 w.heap.size (fun k_ => k_ ≠ gb177) (.slice (some ad166) x5_2.length co38) x5_2) := ⟨h0_⟩
                                        have n1_ : Aside0 (w40.heap[gb155]? = some (.cells #[.int .i64 a0_0, .slice (some ad164) l0_1.length c0_1] 59 (0, 0))) := ⟨h1_⟩
                                        have n2_ : Aside0 (w40.heap[gb165]? = some (.cells #[.int .i64 ((rd_T87 l0_1 x6_2).f0), .int .i64 ((rd_T87 l0_1 x6_2).f1)] 87 (0, 0))) := ⟨h2_⟩
                                        have n3_ : Aside0 (w40.heap[gb177]? = some (.cells #[.bool false, .int .i64 0, .int .i64 0, .string (⟨#[]⟩ : ByteArray)] 26 (0, 0))) := ⟨h3_⟩
                                        have n4_ : Aside0 (w.heap.size ≤ gb177) := ⟨h4_⟩
                                        have n5_ : Aside0 (w.heap.size ≤ gb177) := ⟨h5_⟩
                                        have n6_ : Aside0 (gb155 ≠ gb177) := ⟨h6_⟩
                                        have n7_ : Aside0 (gb177 ≠ gb155) := ⟨h7_⟩
                                        have n8_ : Aside0 (gb165 ≠ gb177) := ⟨h8_⟩
                                        have n9_ : Aside0 (gb177 ≠ gb165) := ⟨h9_⟩
                                        have n10_ : Aside0 (Below w.heap.size w w40) := ⟨h10_⟩
                                        clear HO_5
                                        clear BK155
                                        clear BK165
                                        clear HB
                                        clear h0_ h1_ h2_ h3_ h4_ h5_ h6_ h7_ h8_ h9_ h10_
                                        have HO_5 := n0_
                                        have BK155 := n1_
                                        have BK165 := n2_
                                        have BK177 := n3_
                                        have GW177 := n4_
                                        have GE177 := n5_
                                        have NB155_177 := n6_
                                        have NB177_155 := n7_
                                        have NB165_177 := n8_
                                        have NB177_165 := n9_
                                        have HB := n10_
                                        clear n0_ n1_ n2_ n3_ n4_ n5_ n6_ n7_ n8_ n9_ n10_
                                        have hHeld : w40.cell? ⟨gb165, 0, none⟩ = some (.int .i64 ((rd_T87 l0_1 x6_2).f0)) ∧ w40.cell? ⟨gb165, 1, none⟩ = some (.int .i64 ((rd_T87 l0_1 x6_2).f1)) ∧ w40.cell? (ad166.add ((((rd_T87 l0_1 x6_2).f0)).toNat * 4)) = some (.bool ((rd_T26 x5_2 ((rd_T87 l0_1 x6_2).f0)).f0)) ∧ w40.cell? ⟨(ad166.add ((((rd_T87 l0_1 x6_2).f0)).toNat * 4)).block, (ad166.add ((((rd_T87 l0_1 x6_2).f0)).toNat * 4)).off + 1, none⟩ = some (.int .i64 ((rd_T26 x5_2 ((rd_T87 l0_1 x6_2).f0)).f1)) ∧ w40.cell? ⟨(ad166.add ((((rd_T87 l0_1 x6_2).f0)).toNat * 4)).block, (ad166.add ((((rd_T87 l0_1 x6_2).f0)).toNat * 4)).off + 2, none⟩ = some (.int .i64 ((rd_T26 x5_2 ((rd_T87 l0_1 x6_2).f0)).f2)) ∧ w40.cell? ⟨(ad166.add ((((rd_T87 l0_1 x6_2).f0)).toNat * 4)).block, (ad166.add ((((rd_T87 l0_1 x6_2).f0)).toNat * 4)).off + 3, none⟩ = some (.string ((rd_T26 x5_2 ((rd_T87 l0_1 x6_2).f0)).f3)) ∧ w40.cell? (ad166.add ((((rd_T87 l0_1 x6_2).f1)).toNat * 4)) = some (.bool ((rd_T26 x5_2 ((rd_T87 l0_1 x6_2).f1)).f0)) ∧ w40.cell? ⟨(ad166.add ((((rd_T87 l0_1 x6_2).f1)).toNat * 4)).block, (ad166.add ((((rd_T87 l0_1 x6_2).f1)).toNat * 4)).off + 1, none⟩ = some (.int .i64 ((rd_T26 x5_2 ((rd_T87 l0_1 x6_2).f1)).f1)) ∧ w40.cell? ⟨(ad166.add ((((rd_T87 l0_1 x6_2).f1)).toNat * 4)).block, (ad166.add ((((rd_T87 l0_1 x6_2).f1)).toNat * 4)).off + 2, none⟩ = some (.int .i64 ((rd_T26 x5_2 ((rd_T87 l0_1 x6_2).f1)).f2)) ∧ w40.cell? ⟨(ad166.add ((((rd_T87 l0_1 x6_2).f1)).toNat * 4)).block, (ad166.add ((((rd_T87 l0_1 x6_2).f1)).toNat * 4)).off + 3, none⟩ = some (.string ((rd_T26 x5_2 ((rd_T87 l0_1 x6_2).f1)).f3)) := hS_
                                        refine norm_ (a' := ?_) ?_ ?_
                                        rotate_left
                                        · simp only [putAll, Act.put, List.setIfInBounds_toArray, List.set_cons_zero, List.set_cons_succ]
                                          rfl
                                        refine two_ (i := 10) (j := 14) (Ni := some 51) (Nj := some 8) #[true, true, true, true, true, true, true, true, true, true, true, false, false, false, false, true, false, false] #[true, true, true, true, true, true, true, true, true, true, false, false, false, false, true, true, false, false] rfl rfl rfl rfl (two_of HT_.out (by kernel_rfl)) (by decide) (by decide) (fun K hK => ?_) (fun K hK => ?_)
                                        · skip
                                          refine goes_ Try.func33 (by kernel_rfl) rfl #[.agg #[.bool ((rd_T26 x5_2 ((rd_T87 l0_1 x6_2).f0)).f0), .int .i64 ((rd_T26 x5_2 ((rd_T87 l0_1 x6_2).f0)).f1), .int .i64 ((rd_T26 x5_2 ((rd_T87 l0_1 x6_2).f0)).f2), .string ((rd_T26 x5_2 ((rd_T87 l0_1 x6_2).f0)).f3)], .agg #[.bool ((rd_T26 x5_2 ((rd_T87 l0_1 x6_2).f1)).f0), .int .i64 ((rd_T26 x5_2 ((rd_T87 l0_1 x6_2).f1)).f1), .int .i64 ((rd_T26 x5_2 ((rd_T87 l0_1 x6_2).f1)).f2), .string ((rd_T26 x5_2 ((rd_T87 l0_1 x6_2).f1)).f3)]] (by rfl) rfl rfl (by (try simp only [List.map_toArray, List.map_cons, List.map_nil]); first | done | rfl | (simp only [List.length_drop, List.length_take]; rfl)) ?_
                                          with_reducible refine (spec_RecPair.calls k2 ((rd_T26 x5_2 ((rd_T87 l0_1 x6_2).f0)).f0) ((rd_T26 x5_2 ((rd_T87 l0_1 x6_2).f0)).f1) ((rd_T26 x5_2 ((rd_T87 l0_1 x6_2).f0)).f2) ((rd_T26 x5_2 ((rd_T87 l0_1 x6_2).f0)).f3) ((rd_T26 x5_2 ((rd_T87 l0_1 x6_2).f1)).f0) ((rd_T26 x5_2 ((rd_T87 l0_1 x6_2).f1)).f1) ((rd_T26 x5_2 ((rd_T87 l0_1 x6_2).f1)).f2) ((rd_T26 x5_2 ((rd_T87 l0_1 x6_2).f1)).f3) t168 t169 t170 t171 t172 t173 t174 t175 _ A29.out).mono ?_
                                          rintro e w41 ⟨rfl, hb⟩
                                          have HS2_ := (hb.cell (World.block_lt_of_cell? _ _ (hHeld.2.2.1))).trans (hHeld.2.2.1)
                                          have HS3_ := (hb.cell (World.block_lt_of_cell? _ _ (hHeld.2.2.2.1))).trans (hHeld.2.2.2.1)
                                          have HS4_ := (hb.cell (World.block_lt_of_cell? _ _ (hHeld.2.2.2.2.1))).trans (hHeld.2.2.2.2.1)
                                          have HS5_ := (hb.cell (World.block_lt_of_cell? _ _ (hHeld.2.2.2.2.2.1))).trans (hHeld.2.2.2.2.2.1)
                                          have HS6_ := (hb.cell (World.block_lt_of_cell? _ _ (hHeld.2.2.2.2.2.2.1))).trans (hHeld.2.2.2.2.2.2.1)
                                          have HS7_ := (hb.cell (World.block_lt_of_cell? _ _ (hHeld.2.2.2.2.2.2.2.1))).trans (hHeld.2.2.2.2.2.2.2.1)
                                          have HS8_ := (hb.cell (World.block_lt_of_cell? _ _ (hHeld.2.2.2.2.2.2.2.2.1))).trans (hHeld.2.2.2.2.2.2.2.2.1)
                                          have HS9_ := (hb.cell (World.block_lt_of_cell? _ _ (hHeld.2.2.2.2.2.2.2.2.2))).trans (hHeld.2.2.2.2.2.2.2.2.2)
                                          refine ⟨_, rfl, ?_⟩
                                          have n0_ := Aside0.mk (Kd.R_below (by (with_reducible repeat (first | apply Kd.R_alloc | apply Kd.R_drewN | apply Kd.R_drew)); exact HO_5.out) hb)
                                          have n1_ := Aside0.mk (blk_below (g := gb155) (o := .cells #[.int .i64 a0_0, .slice (some ad164) l0_1.length c0_1] 59 (0, 0)) (by (with_reducible repeat (first | refine blk_drewN ?_ _ | refine blk_drew ?_ | refine blk_alloc ?_ _)); exact BK155.out) hb)
                                          have n2_ := Aside0.mk (blk_below (g := gb165) (o := .cells #[.int .i64 ((rd_T87 l0_1 x6_2).f0), .int .i64 ((rd_T87 l0_1 x6_2).f1)] 87 (0, 0)) (by (with_reducible repeat (first | refine blk_drewN ?_ _ | refine blk_drew ?_ | refine blk_alloc ?_ _)); exact BK165.out) hb)
                                          have n3_ := Aside0.mk (blk_below (g := gb177) (o := .cells #[.bool false, .int .i64 0, .int .i64 0, .string (⟨#[]⟩ : ByteArray)] 26 (0, 0)) (by (with_reducible repeat (first | refine blk_drewN ?_ _ | refine blk_drew ?_ | refine blk_alloc ?_ _)); exact BK177.out) hb)
                                          have n4_ := Aside0.mk (below_step (by repeat (first | (with_reducible first | exact HB.out | apply below_alloc | apply pw_below_drewN | apply below_drew1 | refine below_set ?_ GE155.out | refine below_set ?_ GE165.out | refine below_set ?_ GE177.out) | exact HB.out)) hb)
                                          clear HO_5
                                          clear BK155
                                          clear BK165
                                          clear BK177
                                          clear HB
                                          have HO_5 := n0_
                                          have BK155 := n1_
                                          have BK165 := n2_
                                          have BK177 := n3_
                                          have HB := n4_
                                          clear n0_ n1_ n2_ n3_ n4_
                                          (try clear hb)
                                          (try clear hb2)
                                          (try clear hk)
                                          (try clear hi)
                                          refine hK.out _ _ ⟨(blk_cell BK165.out 0).trans rfl, (blk_cell BK165.out 1).trans rfl, HS2_, HS3_, HS4_, HS5_, HS6_, HS7_, HS8_, HS9_⟩ (fun hHeld => ?_)
                                          clear hK K
                                          refine norm_ (a' := ?_) ?_ ?_
                                          rotate_left
                                          · show Act.put _ (some 51) _ = _
                                            simp only [Act.put, List.setIfInBounds_toArray, List.set_cons_zero, List.set_cons_succ, i64_w, i32_w]
                                            rfl
                                          refine pure_ (i := 11) (N := some 40) (v := ?_) (a' := ?_) #[true, true, true, true, true, true, true, true, true, true, true, true, false, false, false, true, false, false] rfl rfl (any_of HT_.out (by kernel_rfl)) (fun _ _ _ h => h) (Or.inl ⟨by rfl, ?_⟩) ?_ ?_
                                          rotate_left
                                          · intro w'
                                            go_simp
                                            with_reducible rfl
                                          rotate_left
                                          · simp only [Act.put, List.setIfInBounds_toArray, List.set_cons_zero, List.set_cons_succ, i64_w, i32_w]
                                            rfl
                                          refine pure_ (i := 12) (N := some 52) (v := ?_) (a' := ?_) #[true, true, true, true, true, true, true, true, true, true, true, true, true, false, false, true, false, false] rfl rfl (any_of HT_.out (by kernel_rfl)) (fun _ _ _ h => h) (Or.inl ⟨by rfl, ?_⟩) ?_ ?_
                                          rotate_left
                                          · intro w'
                                            go_simp
                                            with_reducible rfl
                                          rotate_left
                                          · simp only [Act.put, List.setIfInBounds_toArray, List.set_cons_zero, List.set_cons_succ, i64_w, i32_w]
                                            rfl
                                          refine pure_ (i := 13) (N := some 53) (v := ?_) (a' := ?_) #[true, true, true, true, true, true, true, true, true, true, true, true, true, true, false, true, false, false] rfl rfl (any_of HT_.out (by kernel_rfl)) (fun _ _ _ h => h) (Or.inl ⟨by rfl, ?_⟩) ?_ ?_
                                          rotate_left
                                          · intro w'
                                            go_simp
                                            with_reducible rfl
                                          rotate_left
                                          · simp only [Act.put, List.setIfInBounds_toArray, List.set_cons_zero, List.set_cons_succ, i64_w, i32_w]
                                            rfl
                                          exact norm_ (by first | (simp only [putAll, Act.put, List.setIfInBounds_toArray, List.set_cons_zero, List.set_cons_succ]; done) | (simp only [putAll, Act.put, List.setIfInBounds_toArray, List.set_cons_zero, List.set_cons_succ]; rfl)) (hJ10_15 (gb177) _ ⟨hHeld, (by (with_reducible repeat (first | apply Kd.R_alloc | apply Kd.R_drewN | apply Kd.R_drew)); exact HO_5.out), (by (with_reducible repeat (first | refine blk_drewN ?_ _ | refine blk_drew ?_ | refine blk_alloc ?_ _)); exact BK155.out), (by (with_reducible repeat (first | refine blk_drewN ?_ _ | refine blk_drew ?_ | refine blk_alloc ?_ _)); exact BK165.out), (by (with_reducible repeat (first | refine blk_drewN ?_ _ | refine blk_drew ?_ | refine blk_alloc ?_ _)); exact BK177.out), GW177.out, GE177.out, NB155_177.out, NB177_155.out, NB165_177.out, NB177_165.out, (by repeat (first | (with_reducible first | exact HB.out | apply below_alloc | apply pw_below_drewN | apply below_drew1 | refine below_set ?_ GE155.out | refine below_set ?_ GE165.out | refine below_set ?_ GE177.out) | exact HB.out))⟩)
                                        · skip
                                          refine box_step ?hg (N := 8) ?hd (cs := #[.bool false, .int .i64 0, .int .i64 0, .string (⟨#[]⟩ : ByteArray)]) (t := 26) ?hr ?_; (case hd => rfl); (case hg => rfl); (case hr => first | (go_simp; done) | (go_simp; rfl))
                                          intro gb176 hg w41 hbox hb
                                          have HS2_ := (hb.cell (World.block_lt_of_cell? _ _ (hHeld.2.2.1))).trans (hHeld.2.2.1)
                                          have HS3_ := (hb.cell (World.block_lt_of_cell? _ _ (hHeld.2.2.2.1))).trans (hHeld.2.2.2.1)
                                          have HS4_ := (hb.cell (World.block_lt_of_cell? _ _ (hHeld.2.2.2.2.1))).trans (hHeld.2.2.2.2.1)
                                          have HS5_ := (hb.cell (World.block_lt_of_cell? _ _ (hHeld.2.2.2.2.2.1))).trans (hHeld.2.2.2.2.2.1)
                                          have HS6_ := (hb.cell (World.block_lt_of_cell? _ _ (hHeld.2.2.2.2.2.2.1))).trans (hHeld.2.2.2.2.2.2.1)
                                          have HS7_ := (hb.cell (World.block_lt_of_cell? _ _ (hHeld.2.2.2.2.2.2.2.1))).trans (hHeld.2.2.2.2.2.2.2.1)
                                          have HS8_ := (hb.cell (World.block_lt_of_cell? _ _ (hHeld.2.2.2.2.2.2.2.2.1))).trans (hHeld.2.2.2.2.2.2.2.2.1)
                                          have HS9_ := (hb.cell (World.block_lt_of_cell? _ _ (hHeld.2.2.2.2.2.2.2.2.2))).trans (hHeld.2.2.2.2.2.2.2.2.2)
                                          have n0_ := Aside0.mk (Kd.R_below (Kd.R_elderB (by (with_reducible repeat (first | apply Kd.R_alloc | apply Kd.R_drewN | apply Kd.R_drew)); exact HO_5.out) gb176 (Nat.le_of_eq hg.symm)) hb)
                                          have n1_ := Aside0.mk (blk_below (g := gb155) (o := .cells #[.int .i64 a0_0, .slice (some ad164) l0_1.length c0_1] 59 (0, 0)) (by (with_reducible repeat (first | refine blk_drewN ?_ _ | refine blk_drew ?_ | refine blk_alloc ?_ _)); exact BK155.out) hb)
                                          have n2_ := Aside0.mk (blk_below (g := gb165) (o := .cells #[.int .i64 ((rd_T87 l0_1 x6_2).f0), .int .i64 ((rd_T87 l0_1 x6_2).f1)] 87 (0, 0)) (by (with_reducible repeat (first | refine blk_drewN ?_ _ | refine blk_drew ?_ | refine blk_alloc ?_ _)); exact BK165.out) hb)
                                          have n3_ := Aside0.mk (blk_below (g := gb177) (o := .cells #[.bool false, .int .i64 0, .int .i64 0, .string (⟨#[]⟩ : ByteArray)] 26 (0, 0)) (by (with_reducible repeat (first | refine blk_drewN ?_ _ | refine blk_drew ?_ | refine blk_alloc ?_ _)); exact BK177.out) hb)
                                          have n4_ := Aside0.mk (below_step (by repeat (first | (with_reducible first | exact HB.out | apply below_alloc | apply pw_below_drewN | apply below_drew1 | refine below_set ?_ GE155.out | refine below_set ?_ GE165.out | refine below_set ?_ GE177.out) | exact HB.out)) hb)
                                          have n5_ := Aside0.mk (hbox)
                                          have n6_ := Aside0.mk ((by rw [hg]; exact (below_size (by repeat (first | (with_reducible first | exact HB.out | apply below_alloc | apply pw_below_drewN | apply below_drew1 | refine below_set ?_ GE155.out | refine below_set ?_ GE165.out | refine below_set ?_ GE177.out) | exact HB.out))) : w.heap.size ≤ gb176))
                                          have n7_ := Aside0.mk ((by rw [hg]; exact (below_size (by repeat (first | (with_reducible first | exact HB.out | apply below_alloc | apply pw_below_drewN | apply below_drew1 | refine below_set ?_ GE155.out | refine below_set ?_ GE165.out | refine below_set ?_ GE177.out) | exact HB.out))) : w.heap.size ≤ gb176))
                                          have n8_ := Aside0.mk ((by rw [hg]; exact Nat.ne_of_lt (blk_lt (g := gb155) (o := .cells #[.int .i64 a0_0, .slice (some ad164) l0_1.length c0_1] 59 (0, 0)) (by (with_reducible repeat (first | refine blk_drewN ?_ _ | refine blk_drew ?_ | refine blk_alloc ?_ _)); exact BK155.out)) : gb155 ≠ gb176))
                                          have n9_ := Aside0.mk ((by rw [hg]; exact Nat.ne_of_gt (blk_lt (g := gb155) (o := .cells #[.int .i64 a0_0, .slice (some ad164) l0_1.length c0_1] 59 (0, 0)) (by (with_reducible repeat (first | refine blk_drewN ?_ _ | refine blk_drew ?_ | refine blk_alloc ?_ _)); exact BK155.out)) : gb176 ≠ gb155))
                                          have n10_ := Aside0.mk ((by rw [hg]; exact Nat.ne_of_lt (blk_lt (g := gb165) (o := .cells #[.int .i64 ((rd_T87 l0_1 x6_2).f0), .int .i64 ((rd_T87 l0_1 x6_2).f1)] 87 (0, 0)) (by (with_reducible repeat (first | refine blk_drewN ?_ _ | refine blk_drew ?_ | refine blk_alloc ?_ _)); exact BK165.out)) : gb165 ≠ gb176))
                                          have n11_ := Aside0.mk ((by rw [hg]; exact Nat.ne_of_gt (blk_lt (g := gb165) (o := .cells #[.int .i64 ((rd_T87 l0_1 x6_2).f0), .int .i64 ((rd_T87 l0_1 x6_2).f1)] 87 (0, 0)) (by (with_reducible repeat (first | refine blk_drewN ?_ _ | refine blk_drew ?_ | refine blk_alloc ?_ _)); exact BK165.out)) : gb176 ≠ gb165))
                                          have n12_ := Aside0.mk ((by rw [hg]; exact Nat.ne_of_lt (blk_lt (g := gb177) (o := .cells #[.bool false, .int .i64 0, .int .i64 0, .string (⟨#[]⟩ : ByteArray)] 26 (0, 0)) (by (with_reducible repeat (first | refine blk_drewN ?_ _ | refine blk_drew ?_ | refine blk_alloc ?_ _)); exact BK177.out)) : gb177 ≠ gb176))
                                          have n13_ := Aside0.mk ((by rw [hg]; exact Nat.ne_of_gt (blk_lt (g := gb177) (o := .cells #[.bool false, .int .i64 0, .int .i64 0, .string (⟨#[]⟩ : ByteArray)] 26 (0, 0)) (by (with_reducible repeat (first | refine blk_drewN ?_ _ | refine blk_drew ?_ | refine blk_alloc ?_ _)); exact BK177.out)) : gb176 ≠ gb177))
                                          clear HO_5
                                          clear BK155
                                          clear BK165
                                          clear BK177
                                          clear HB
                                          have HO_5 := n0_
                                          have BK155 := n1_
                                          have BK165 := n2_
                                          have BK177 := n3_
                                          have HB := n4_
                                          have BK176 := n5_
                                          have GW176 := n6_
                                          have GE176 := n7_
                                          have NB155_176 := n8_
                                          have NB176_155 := n9_
                                          have NB165_176 := n10_
                                          have NB176_165 := n11_
                                          have NB177_176 := n12_
                                          have NB176_177 := n13_
                                          clear n0_ n1_ n2_ n3_ n4_ n5_ n6_ n7_ n8_ n9_ n10_ n11_ n12_ n13_
                                          clear hb hbox hg
                                          refine hK.out _ _ ⟨(blk_cell BK165.out 0).trans rfl, (blk_cell BK165.out 1).trans rfl, HS2_, HS3_, HS4_, HS5_, HS6_, HS7_, HS8_, HS9_⟩ (fun hHeld => ?_)
                                          clear hK K
                                          refine norm_ (a' := ?_) ?_ ?_
                                          rotate_left
                                          · show Act.put _ (some 8) _ = _
                                            simp only [Act.put, List.setIfInBounds_toArray, List.set_cons_zero, List.set_cons_succ, i64_w, i32_w]
                                            rfl
                                          exact norm_ (by first | (simp only [putAll, Act.put, List.setIfInBounds_toArray, List.set_cons_zero, List.set_cons_succ]; done) | (simp only [putAll, Act.put, List.setIfInBounds_toArray, List.set_cons_zero, List.set_cons_succ]; rfl)) (hJ14_15 (gb176, gb177) _ ⟨hHeld, (by (with_reducible repeat (first | apply Kd.R_alloc | apply Kd.R_drewN | apply Kd.R_drew)); exact Kd.R_mono HO_5.out (fun _ hk => ⟨hk.2, hk.1⟩)), (by (with_reducible repeat (first | refine blk_drewN ?_ _ | refine blk_drew ?_ | refine blk_alloc ?_ _)); exact BK155.out), (by (with_reducible repeat (first | refine blk_drewN ?_ _ | refine blk_drew ?_ | refine blk_alloc ?_ _)); exact BK165.out), (by (with_reducible repeat (first | refine blk_drewN ?_ _ | refine blk_drew ?_ | refine blk_alloc ?_ _)); exact BK176.out), (by (with_reducible repeat (first | refine blk_drewN ?_ _ | refine blk_drew ?_ | refine blk_alloc ?_ _)); exact BK177.out), GW176.out, GE176.out, NB155_176.out, NB176_155.out, NB165_176.out, NB176_165.out, NB177_176.out, NB176_177.out, GW177.out, GE177.out, NB155_177.out, NB177_155.out, NB165_177.out, NB177_165.out, (by repeat (first | (with_reducible first | exact HB.out | apply below_alloc | apply pw_below_drewN | apply below_drew1 | refine below_set ?_ GE155.out | refine below_set ?_ GE165.out | refine below_set ?_ GE177.out | refine below_set ?_ GE176.out) | exact HB.out))⟩)
                                    · skip
                                      rintro gb176 w40 ⟨hS_, h0_, h1_, h2_, h3_, h4_, h5_, h6_, h7_, h8_, h9_, h10_⟩
                                      have n0_ : Aside0 (Kd.R k26 26 w40 w.heap.size (fun k_ => k_ ≠ gb176) (.slice (some ad166) x5_2.length co38) x5_2) := ⟨h0_⟩
                                      have n1_ : Aside0 (w40.heap[gb155]? = some (.cells #[.int .i64 a0_0, .slice (some ad164) l0_1.length c0_1] 59 (0, 0))) := ⟨h1_⟩
                                      have n2_ : Aside0 (w40.heap[gb165]? = some (.cells #[.int .i64 ((rd_T87 l0_1 x6_2).f0), .int .i64 ((rd_T87 l0_1 x6_2).f1)] 87 (0, 0))) := ⟨h2_⟩
                                      have n3_ : Aside0 (w40.heap[gb176]? = some (.cells #[.bool false, .int .i64 0, .int .i64 0, .string (⟨#[]⟩ : ByteArray)] 26 (0, 0))) := ⟨h3_⟩
                                      have n4_ : Aside0 (w.heap.size ≤ gb176) := ⟨h4_⟩
                                      have n5_ : Aside0 (w.heap.size ≤ gb176) := ⟨h5_⟩
                                      have n6_ : Aside0 (gb155 ≠ gb176) := ⟨h6_⟩
                                      have n7_ : Aside0 (gb176 ≠ gb155) := ⟨h7_⟩
                                      have n8_ : Aside0 (gb165 ≠ gb176) := ⟨h8_⟩
                                      have n9_ : Aside0 (gb176 ≠ gb165) := ⟨h9_⟩
                                      have n10_ : Aside0 (Below w.heap.size w w40) := ⟨h10_⟩
                                      clear HO_5
                                      clear BK155
                                      clear BK165
                                      clear HB
                                      clear h0_ h1_ h2_ h3_ h4_ h5_ h6_ h7_ h8_ h9_ h10_
                                      have HO_5 := n0_
                                      have BK155 := n1_
                                      have BK165 := n2_
                                      have BK176 := n3_
                                      have GW176 := n4_
                                      have GE176 := n5_
                                      have NB155_176 := n6_
                                      have NB176_155 := n7_
                                      have NB165_176 := n8_
                                      have NB176_165 := n9_
                                      have HB := n10_
                                      clear n0_ n1_ n2_ n3_ n4_ n5_ n6_ n7_ n8_ n9_ n10_
                                      have hHeld : w40.cell? ⟨gb165, 0, none⟩ = some (.int .i64 ((rd_T87 l0_1 x6_2).f0)) ∧ w40.cell? ⟨gb165, 1, none⟩ = some (.int .i64 ((rd_T87 l0_1 x6_2).f1)) ∧ w40.cell? (ad166.add ((((rd_T87 l0_1 x6_2).f0)).toNat * 4)) = some (.bool ((rd_T26 x5_2 ((rd_T87 l0_1 x6_2).f0)).f0)) ∧ w40.cell? ⟨(ad166.add ((((rd_T87 l0_1 x6_2).f0)).toNat * 4)).block, (ad166.add ((((rd_T87 l0_1 x6_2).f0)).toNat * 4)).off + 1, none⟩ = some (.int .i64 ((rd_T26 x5_2 ((rd_T87 l0_1 x6_2).f0)).f1)) ∧ w40.cell? ⟨(ad166.add ((((rd_T87 l0_1 x6_2).f0)).toNat * 4)).block, (ad166.add ((((rd_T87 l0_1 x6_2).f0)).toNat * 4)).off + 2, none⟩ = some (.int .i64 ((rd_T26 x5_2 ((rd_T87 l0_1 x6_2).f0)).f2)) ∧ w40.cell? ⟨(ad166.add ((((rd_T87 l0_1 x6_2).f0)).toNat * 4)).block, (ad166.add ((((rd_T87 l0_1 x6_2).f0)).toNat * 4)).off + 3, none⟩ = some (.string ((rd_T26 x5_2 ((rd_T87 l0_1 x6_2).f0)).f3)) ∧ w40.cell? (ad166.add ((((rd_T87 l0_1 x6_2).f1)).toNat * 4)) = some (.bool ((rd_T26 x5_2 ((rd_T87 l0_1 x6_2).f1)).f0)) ∧ w40.cell? ⟨(ad166.add ((((rd_T87 l0_1 x6_2).f1)).toNat * 4)).block, (ad166.add ((((rd_T87 l0_1 x6_2).f1)).toNat * 4)).off + 1, none⟩ = some (.int .i64 ((rd_T26 x5_2 ((rd_T87 l0_1 x6_2).f1)).f1)) ∧ w40.cell? ⟨(ad166.add ((((rd_T87 l0_1 x6_2).f1)).toNat * 4)).block, (ad166.add ((((rd_T87 l0_1 x6_2).f1)).toNat * 4)).off + 2, none⟩ = some (.int .i64 ((rd_T26 x5_2 ((rd_T87 l0_1 x6_2).f1)).f2)) ∧ w40.cell? ⟨(ad166.add ((((rd_T87 l0_1 x6_2).f1)).toNat * 4)).block, (ad166.add ((((rd_T87 l0_1 x6_2).f1)).toNat * 4)).off + 3, none⟩ = some (.string ((rd_T26 x5_2 ((rd_T87 l0_1 x6_2).f1)).f3)) := hS_
                                      refine norm_ (a' := ?_) ?_ ?_
                                      rotate_left
                                      · simp only [putAll, Act.put, List.setIfInBounds_toArray, List.set_cons_zero, List.set_cons_succ]
                                        rfl
                                      refine two_ (i := 10) (j := 15) (Ni := some 51) (Nj := some 9) #[true, true, true, true, true, true, true, true, true, true, true, false, false, false, true, false, false, false] #[true, true, true, true, true, true, true, true, true, true, false, false, false, false, true, true, false, false] rfl rfl rfl rfl (two_of HT_.out (by kernel_rfl)) (by decide) (by decide) (fun K hK => ?_) (fun K hK => ?_)
                                      · skip
                                        refine goes_ Try.func33 (by kernel_rfl) rfl #[.agg #[.bool ((rd_T26 x5_2 ((rd_T87 l0_1 x6_2).f0)).f0), .int .i64 ((rd_T26 x5_2 ((rd_T87 l0_1 x6_2).f0)).f1), .int .i64 ((rd_T26 x5_2 ((rd_T87 l0_1 x6_2).f0)).f2), .string ((rd_T26 x5_2 ((rd_T87 l0_1 x6_2).f0)).f3)], .agg #[.bool ((rd_T26 x5_2 ((rd_T87 l0_1 x6_2).f1)).f0), .int .i64 ((rd_T26 x5_2 ((rd_T87 l0_1 x6_2).f1)).f1), .int .i64 ((rd_T26 x5_2 ((rd_T87 l0_1 x6_2).f1)).f2), .string ((rd_T26 x5_2 ((rd_T87 l0_1 x6_2).f1)).f3)]] (by rfl) rfl rfl (by (try simp only [List.map_toArray, List.map_cons, List.map_nil]); first | done | rfl | (simp only [List.length_drop, List.length_take]; rfl)) ?_
                                        with_reducible refine (spec_RecPair.calls k2 ((rd_T26 x5_2 ((rd_T87 l0_1 x6_2).f0)).f0) ((rd_T26 x5_2 ((rd_T87 l0_1 x6_2).f0)).f1) ((rd_T26 x5_2 ((rd_T87 l0_1 x6_2).f0)).f2) ((rd_T26 x5_2 ((rd_T87 l0_1 x6_2).f0)).f3) ((rd_T26 x5_2 ((rd_T87 l0_1 x6_2).f1)).f0) ((rd_T26 x5_2 ((rd_T87 l0_1 x6_2).f1)).f1) ((rd_T26 x5_2 ((rd_T87 l0_1 x6_2).f1)).f2) ((rd_T26 x5_2 ((rd_T87 l0_1 x6_2).f1)).f3) t168 t169 t170 t171 t172 t173 t174 t175 _ A29.out).mono ?_
                                        rintro e w41 ⟨rfl, hb⟩
                                        have HS2_ := (hb.cell (World.block_lt_of_cell? _ _ (hHeld.2.2.1))).trans (hHeld.2.2.1)
                                        have HS3_ := (hb.cell (World.block_lt_of_cell? _ _ (hHeld.2.2.2.1))).trans (hHeld.2.2.2.1)
                                        have HS4_ := (hb.cell (World.block_lt_of_cell? _ _ (hHeld.2.2.2.2.1))).trans (hHeld.2.2.2.2.1)
                                        have HS5_ := (hb.cell (World.block_lt_of_cell? _ _ (hHeld.2.2.2.2.2.1))).trans (hHeld.2.2.2.2.2.1)
                                        have HS6_ := (hb.cell (World.block_lt_of_cell? _ _ (hHeld.2.2.2.2.2.2.1))).trans (hHeld.2.2.2.2.2.2.1)
                                        have HS7_ := (hb.cell (World.block_lt_of_cell? _ _ (hHeld.2.2.2.2.2.2.2.1))).trans (hHeld.2.2.2.2.2.2.2.1)
                                        have HS8_ := (hb.cell (World.block_lt_of_cell? _ _ (hHeld.2.2.2.2.2.2.2.2.1))).trans (hHeld.2.2.2.2.2.2.2.2.1)
                                        have HS9_ := (hb.cell (World.block_lt_of_cell? _ _ (hHeld.2.2.2.2.2.2.2.2.2))).trans (hHeld.2.2.2.2.2.2.2.2.2)
                                        refine ⟨_, rfl, ?_⟩
                                        have n0_ := Aside0.mk (Kd.R_below (by (with_reducible repeat (first | apply Kd.R_alloc | apply Kd.R_drewN | apply Kd.R_drew)); exact HO_5.out) hb)
                                        have n1_ := Aside0.mk (blk_below (g := gb155) (o := .cells #[.int .i64 a0_0, .slice (some ad164) l0_1.length c0_1] 59 (0, 0)) (by (with_reducible repeat (first | refine blk_drewN ?_ _ | refine blk_drew ?_ | refine blk_alloc ?_ _)); exact BK155.out) hb)
                                        have n2_ := Aside0.mk (blk_below (g := gb165) (o := .cells #[.int .i64 ((rd_T87 l0_1 x6_2).f0), .int .i64 ((rd_T87 l0_1 x6_2).f1)] 87 (0, 0)) (by (with_reducible repeat (first | refine blk_drewN ?_ _ | refine blk_drew ?_ | refine blk_alloc ?_ _)); exact BK165.out) hb)
                                        have n3_ := Aside0.mk (blk_below (g := gb176) (o := .cells #[.bool false, .int .i64 0, .int .i64 0, .string (⟨#[]⟩ : ByteArray)] 26 (0, 0)) (by (with_reducible repeat (first | refine blk_drewN ?_ _ | refine blk_drew ?_ | refine blk_alloc ?_ _)); exact BK176.out) hb)
                                        have n4_ := Aside0.mk (below_step (by repeat (first | (with_reducible first | exact HB.out | apply below_alloc | apply pw_below_drewN | apply below_drew1 | refine below_set ?_ GE155.out | refine below_set ?_ GE165.out | refine below_set ?_ GE176.out) | exact HB.out)) hb)
                                        clear HO_5
                                        clear BK155
                                        clear BK165
                                        clear BK176
                                        clear HB
                                        have HO_5 := n0_
                                        have BK155 := n1_
                                        have BK165 := n2_
                                        have BK176 := n3_
                                        have HB := n4_
                                        clear n0_ n1_ n2_ n3_ n4_
                                        (try clear hb)
                                        (try clear hb2)
                                        (try clear hk)
                                        (try clear hi)
                                        refine hK.out _ _ ⟨(blk_cell BK165.out 0).trans rfl, (blk_cell BK165.out 1).trans rfl, HS2_, HS3_, HS4_, HS5_, HS6_, HS7_, HS8_, HS9_⟩ (fun hHeld => ?_)
                                        clear hK K
                                        refine norm_ (a' := ?_) ?_ ?_
                                        rotate_left
                                        · show Act.put _ (some 51) _ = _
                                          simp only [Act.put, List.setIfInBounds_toArray, List.set_cons_zero, List.set_cons_succ, i64_w, i32_w]
                                          rfl
                                        refine pure_ (i := 11) (N := some 40) (v := ?_) (a' := ?_) #[true, true, true, true, true, true, true, true, true, true, true, true, false, false, true, false, false, false] rfl rfl (any_of HT_.out (by kernel_rfl)) (fun _ _ _ h => h) (Or.inl ⟨by rfl, ?_⟩) ?_ ?_
                                        rotate_left
                                        · intro w'
                                          go_simp
                                          with_reducible rfl
                                        rotate_left
                                        · simp only [Act.put, List.setIfInBounds_toArray, List.set_cons_zero, List.set_cons_succ, i64_w, i32_w]
                                          rfl
                                        refine pure_ (i := 12) (N := some 52) (v := ?_) (a' := ?_) #[true, true, true, true, true, true, true, true, true, true, true, true, true, false, true, false, false, false] rfl rfl (any_of HT_.out (by kernel_rfl)) (fun _ _ _ h => h) (Or.inl ⟨by rfl, ?_⟩) ?_ ?_
                                        rotate_left
                                        · intro w'
                                          go_simp
                                          with_reducible rfl
                                        rotate_left
                                        · simp only [Act.put, List.setIfInBounds_toArray, List.set_cons_zero, List.set_cons_succ, i64_w, i32_w]
                                          rfl
                                        refine pure_ (i := 13) (N := some 53) (v := ?_) (a' := ?_) #[true, true, true, true, true, true, true, true, true, true, true, true, true, true, true, false, false, false] rfl rfl (any_of HT_.out (by kernel_rfl)) (fun _ _ _ h => h) (Or.inl ⟨by rfl, ?_⟩) ?_ ?_
                                        rotate_left
                                        · intro w'
                                          go_simp
                                          with_reducible rfl
                                        rotate_left
                                        · simp only [Act.put, List.setIfInBounds_toArray, List.set_cons_zero, List.set_cons_succ, i64_w, i32_w]
                                          rfl
                                        exact norm_ (by first | (simp only [putAll, Act.put, List.setIfInBounds_toArray, List.set_cons_zero, List.set_cons_succ]; done) | (simp only [putAll, Act.put, List.setIfInBounds_toArray, List.set_cons_zero, List.set_cons_succ]; rfl)) (hJ10_14 (gb176) _ ⟨hHeld, (by (with_reducible repeat (first | apply Kd.R_alloc | apply Kd.R_drewN | apply Kd.R_drew)); exact HO_5.out), (by (with_reducible repeat (first | refine blk_drewN ?_ _ | refine blk_drew ?_ | refine blk_alloc ?_ _)); exact BK155.out), (by (with_reducible repeat (first | refine blk_drewN ?_ _ | refine blk_drew ?_ | refine blk_alloc ?_ _)); exact BK165.out), (by (with_reducible repeat (first | refine blk_drewN ?_ _ | refine blk_drew ?_ | refine blk_alloc ?_ _)); exact BK176.out), GW176.out, GE176.out, NB155_176.out, NB176_155.out, NB165_176.out, NB176_165.out, (by repeat (first | (with_reducible first | exact HB.out | apply below_alloc | apply pw_below_drewN | apply below_drew1 | refine below_set ?_ GE155.out | refine below_set ?_ GE165.out | refine below_set ?_ GE176.out) | exact HB.out))⟩)
                                      · skip
                                        refine box_step ?hg (N := 9) ?hd (cs := #[.bool false, .int .i64 0, .int .i64 0, .string (⟨#[]⟩ : ByteArray)]) (t := 26) ?hr ?_; (case hd => rfl); (case hg => rfl); (case hr => first | (go_simp; done) | (go_simp; rfl))
                                        intro gb177 hg w41 hbox hb
                                        have HS2_ := (hb.cell (World.block_lt_of_cell? _ _ (hHeld.2.2.1))).trans (hHeld.2.2.1)
                                        have HS3_ := (hb.cell (World.block_lt_of_cell? _ _ (hHeld.2.2.2.1))).trans (hHeld.2.2.2.1)
                                        have HS4_ := (hb.cell (World.block_lt_of_cell? _ _ (hHeld.2.2.2.2.1))).trans (hHeld.2.2.2.2.1)
                                        have HS5_ := (hb.cell (World.block_lt_of_cell? _ _ (hHeld.2.2.2.2.2.1))).trans (hHeld.2.2.2.2.2.1)
                                        have HS6_ := (hb.cell (World.block_lt_of_cell? _ _ (hHeld.2.2.2.2.2.2.1))).trans (hHeld.2.2.2.2.2.2.1)
                                        have HS7_ := (hb.cell (World.block_lt_of_cell? _ _ (hHeld.2.2.2.2.2.2.2.1))).trans (hHeld.2.2.2.2.2.2.2.1)
                                        have HS8_ := (hb.cell (World.block_lt_of_cell? _ _ (hHeld.2.2.2.2.2.2.2.2.1))).trans (hHeld.2.2.2.2.2.2.2.2.1)
                                        have HS9_ := (hb.cell (World.block_lt_of_cell? _ _ (hHeld.2.2.2.2.2.2.2.2.2))).trans (hHeld.2.2.2.2.2.2.2.2.2)
                                        have n0_ := Aside0.mk (Kd.R_below (Kd.R_elderB (by (with_reducible repeat (first | apply Kd.R_alloc | apply Kd.R_drewN | apply Kd.R_drew)); exact HO_5.out) gb177 (Nat.le_of_eq hg.symm)) hb)
                                        have n1_ := Aside0.mk (blk_below (g := gb155) (o := .cells #[.int .i64 a0_0, .slice (some ad164) l0_1.length c0_1] 59 (0, 0)) (by (with_reducible repeat (first | refine blk_drewN ?_ _ | refine blk_drew ?_ | refine blk_alloc ?_ _)); exact BK155.out) hb)
                                        have n2_ := Aside0.mk (blk_below (g := gb165) (o := .cells #[.int .i64 ((rd_T87 l0_1 x6_2).f0), .int .i64 ((rd_T87 l0_1 x6_2).f1)] 87 (0, 0)) (by (with_reducible repeat (first | refine blk_drewN ?_ _ | refine blk_drew ?_ | refine blk_alloc ?_ _)); exact BK165.out) hb)
                                        have n3_ := Aside0.mk (blk_below (g := gb176) (o := .cells #[.bool false, .int .i64 0, .int .i64 0, .string (⟨#[]⟩ : ByteArray)] 26 (0, 0)) (by (with_reducible repeat (first | refine blk_drewN ?_ _ | refine blk_drew ?_ | refine blk_alloc ?_ _)); exact BK176.out) hb)
                                        have n4_ := Aside0.mk (below_step (by repeat (first | (with_reducible first | exact HB.out | apply below_alloc | apply pw_below_drewN | apply below_drew1 | refine below_set ?_ GE155.out | refine below_set ?_ GE165.out | refine below_set ?_ GE176.out) | exact HB.out)) hb)
                                        have n5_ := Aside0.mk (hbox)
                                        have n6_ := Aside0.mk ((by rw [hg]; exact (below_size (by repeat (first | (with_reducible first | exact HB.out | apply below_alloc | apply pw_below_drewN | apply below_drew1 | refine below_set ?_ GE155.out | refine below_set ?_ GE165.out | refine below_set ?_ GE176.out) | exact HB.out))) : w.heap.size ≤ gb177))
                                        have n7_ := Aside0.mk ((by rw [hg]; exact (below_size (by repeat (first | (with_reducible first | exact HB.out | apply below_alloc | apply pw_below_drewN | apply below_drew1 | refine below_set ?_ GE155.out | refine below_set ?_ GE165.out | refine below_set ?_ GE176.out) | exact HB.out))) : w.heap.size ≤ gb177))
                                        have n8_ := Aside0.mk ((by rw [hg]; exact Nat.ne_of_lt (blk_lt (g := gb155) (o := .cells #[.int .i64 a0_0, .slice (some ad164) l0_1.length c0_1] 59 (0, 0)) (by (with_reducible repeat (first | refine blk_drewN ?_ _ | refine blk_drew ?_ | refine blk_alloc ?_ _)); exact BK155.out)) : gb155 ≠ gb177))
                                        have n9_ := Aside0.mk ((by rw [hg]; exact Nat.ne_of_gt (blk_lt (g := gb155) (o := .cells #[.int .i64 a0_0, .slice (some ad164) l0_1.length c0_1] 59 (0, 0)) (by (with_reducible repeat (first | refine blk_drewN ?_ _ | refine blk_drew ?_ | refine blk_alloc ?_ _)); exact BK155.out)) : gb177 ≠ gb155))
                                        have n10_ := Aside0.mk ((by rw [hg]; exact Nat.ne_of_lt (blk_lt (g := gb165) (o := .cells #[.int .i64 ((rd_T87 l0_1 x6_2).f0), .int .i64 ((rd_T87 l0_1 x6_2).f1)] 87 (0, 0)) (by (with_reducible repeat (first | refine blk_drewN ?_ _ | refine blk_drew ?_ | refine blk_alloc ?_ _)); exact BK165.out)) : gb165 ≠ gb177))
                                        have n11_ := Aside0.mk ((by rw [hg]; exact Nat.ne_of_gt (blk_lt (g := gb165) (o := .cells #[.int .i64 ((rd_T87 l0_1 x6_2).f0), .int .i64 ((rd_T87 l0_1 x6_2).f1)] 87 (0, 0)) (by (with_reducible repeat (first | refine blk_drewN ?_ _ | refine blk_drew ?_ | refine blk_alloc ?_ _)); exact BK165.out)) : gb177 ≠ gb165))
                                        have n12_ := Aside0.mk ((by rw [hg]; exact Nat.ne_of_lt (blk_lt (g := gb176) (o := .cells #[.bool false, .int .i64 0, .int .i64 0, .string (⟨#[]⟩ : ByteArray)] 26 (0, 0)) (by (with_reducible repeat (first | refine blk_drewN ?_ _ | refine blk_drew ?_ | refine blk_alloc ?_ _)); exact BK176.out)) : gb176 ≠ gb177))
                                        have n13_ := Aside0.mk ((by rw [hg]; exact Nat.ne_of_gt (blk_lt (g := gb176) (o := .cells #[.bool false, .int .i64 0, .int .i64 0, .string (⟨#[]⟩ : ByteArray)] 26 (0, 0)) (by (with_reducible repeat (first | refine blk_drewN ?_ _ | refine blk_drew ?_ | refine blk_alloc ?_ _)); exact BK176.out)) : gb177 ≠ gb176))
                                        clear HO_5
                                        clear BK155
                                        clear BK165
                                        clear BK176
                                        clear HB
                                        have HO_5 := n0_
                                        have BK155 := n1_
                                        have BK165 := n2_
                                        have BK176 := n3_
                                        have HB := n4_
                                        have BK177 := n5_
                                        have GW177 := n6_
                                        have GE177 := n7_
                                        have NB155_177 := n8_
                                        have NB177_155 := n9_
                                        have NB165_177 := n10_
                                        have NB177_165 := n11_
                                        have NB176_177 := n12_
                                        have NB177_176 := n13_
                                        clear n0_ n1_ n2_ n3_ n4_ n5_ n6_ n7_ n8_ n9_ n10_ n11_ n12_ n13_
                                        clear hb hbox hg
                                        refine hK.out _ _ ⟨(blk_cell BK165.out 0).trans rfl, (blk_cell BK165.out 1).trans rfl, HS2_, HS3_, HS4_, HS5_, HS6_, HS7_, HS8_, HS9_⟩ (fun hHeld => ?_)
                                        clear hK K
                                        refine norm_ (a' := ?_) ?_ ?_
                                        rotate_left
                                        · show Act.put _ (some 9) _ = _
                                          simp only [Act.put, List.setIfInBounds_toArray, List.set_cons_zero, List.set_cons_succ, i64_w, i32_w]
                                          rfl
                                        exact norm_ (by first | (simp only [putAll, Act.put, List.setIfInBounds_toArray, List.set_cons_zero, List.set_cons_succ]; done) | (simp only [putAll, Act.put, List.setIfInBounds_toArray, List.set_cons_zero, List.set_cons_succ]; rfl)) (hJ14_15 (gb176, gb177) _ ⟨hHeld, (by (with_reducible repeat (first | apply Kd.R_alloc | apply Kd.R_drewN | apply Kd.R_drew)); exact HO_5.out), (by (with_reducible repeat (first | refine blk_drewN ?_ _ | refine blk_drew ?_ | refine blk_alloc ?_ _)); exact BK155.out), (by (with_reducible repeat (first | refine blk_drewN ?_ _ | refine blk_drew ?_ | refine blk_alloc ?_ _)); exact BK165.out), (by (with_reducible repeat (first | refine blk_drewN ?_ _ | refine blk_drew ?_ | refine blk_alloc ?_ _)); exact BK176.out), (by (with_reducible repeat (first | refine blk_drewN ?_ _ | refine blk_drew ?_ | refine blk_alloc ?_ _)); exact BK177.out), GW176.out, GE176.out, NB155_176.out, NB176_155.out, NB165_176.out, NB176_165.out, NB177_176.out, NB176_177.out, GW177.out, GE177.out, NB155_177.out, NB177_155.out, NB165_177.out, NB177_165.out, (by repeat (first | (with_reducible first | exact HB.out | apply below_alloc | apply pw_below_drewN | apply below_drew1 | refine below_set ?_ GE155.out | refine below_set ?_ GE165.out | refine below_set ?_ GE176.out | refine below_set ?_ GE177.out) | exact HB.out))⟩)
                                  · skip
                                    rintro _ w40 ⟨hS_, h0_, h1_, h2_, h3_⟩
                                    have n0_ : Aside0 (Kd.R k26 26 w40 w.heap.size (fun _ => True) (.slice (some ad166) x5_2.length co38) x5_2) := ⟨h0_⟩
                                    have n1_ : Aside0 (w40.heap[gb155]? = some (.cells #[.int .i64 a0_0, .slice (some ad164) l0_1.length c0_1] 59 (0, 0))) := ⟨h1_⟩
                                    have n2_ : Aside0 (w40.heap[gb165]? = some (.cells #[.int .i64 ((rd_T87 l0_1 x6_2).f0), .int .i64 ((rd_T87 l0_1 x6_2).f1)] 87 (0, 0))) := ⟨h2_⟩
                                    have n3_ : Aside0 (Below w.heap.size w w40) := ⟨h3_⟩
                                    clear HO_5
                                    clear BK155
                                    clear BK165
                                    clear HB
                                    clear h0_ h1_ h2_ h3_
                                    have HO_5 := n0_
                                    have BK155 := n1_
                                    have BK165 := n2_
                                    have HB := n3_
                                    clear n0_ n1_ n2_ n3_
                                    have hHeld : w40.cell? ⟨gb165, 0, none⟩ = some (.int .i64 ((rd_T87 l0_1 x6_2).f0)) ∧ w40.cell? ⟨gb165, 1, none⟩ = some (.int .i64 ((rd_T87 l0_1 x6_2).f1)) ∧ w40.cell? (ad166.add ((((rd_T87 l0_1 x6_2).f0)).toNat * 4)) = some (.bool ((rd_T26 x5_2 ((rd_T87 l0_1 x6_2).f0)).f0)) ∧ w40.cell? ⟨(ad166.add ((((rd_T87 l0_1 x6_2).f0)).toNat * 4)).block, (ad166.add ((((rd_T87 l0_1 x6_2).f0)).toNat * 4)).off + 1, none⟩ = some (.int .i64 ((rd_T26 x5_2 ((rd_T87 l0_1 x6_2).f0)).f1)) ∧ w40.cell? ⟨(ad166.add ((((rd_T87 l0_1 x6_2).f0)).toNat * 4)).block, (ad166.add ((((rd_T87 l0_1 x6_2).f0)).toNat * 4)).off + 2, none⟩ = some (.int .i64 ((rd_T26 x5_2 ((rd_T87 l0_1 x6_2).f0)).f2)) ∧ w40.cell? ⟨(ad166.add ((((rd_T87 l0_1 x6_2).f0)).toNat * 4)).block, (ad166.add ((((rd_T87 l0_1 x6_2).f0)).toNat * 4)).off + 3, none⟩ = some (.string ((rd_T26 x5_2 ((rd_T87 l0_1 x6_2).f0)).f3)) ∧ w40.cell? (ad166.add ((((rd_T87 l0_1 x6_2).f1)).toNat * 4)) = some (.bool ((rd_T26 x5_2 ((rd_T87 l0_1 x6_2).f1)).f0)) ∧ w40.cell? ⟨(ad166.add ((((rd_T87 l0_1 x6_2).f1)).toNat * 4)).block, (ad166.add ((((rd_T87 l0_1 x6_2).f1)).toNat * 4)).off + 1, none⟩ = some (.int .i64 ((rd_T26 x5_2 ((rd_T87 l0_1 x6_2).f1)).f1)) ∧ w40.cell? ⟨(ad166.add ((((rd_T87 l0_1 x6_2).f1)).toNat * 4)).block, (ad166.add ((((rd_T87 l0_1 x6_2).f1)).toNat * 4)).off + 2, none⟩ = some (.int .i64 ((rd_T26 x5_2 ((rd_T87 l0_1 x6_2).f1)).f2)) ∧ w40.cell? ⟨(ad166.add ((((rd_T87 l0_1 x6_2).f1)).toNat * 4)).block, (ad166.add ((((rd_T87 l0_1 x6_2).f1)).toNat * 4)).off + 3, none⟩ = some (.string ((rd_T26 x5_2 ((rd_T87 l0_1 x6_2).f1)).f3)) := hS_
                                    refine norm_ (a' := ?_) ?_ ?_
                                    rotate_left
                                    · simp only [putAll, Act.put, List.setIfInBounds_toArray, List.set_cons_zero, List.set_cons_succ]
                                      rfl
                                    refine two_ (i := 14) (j := 15) (Ni := some 8) (Nj := some 9) #[true, true, true, true, true, true, true, true, true, true, true, true, true, true, true, false, false, false] #[true, true, true, true, true, true, true, true, true, true, true, true, true, true, false, true, false, false] rfl rfl rfl rfl (two_of HT_.out (by kernel_rfl)) (by decide) (by decide) (fun K hK => ?_) (fun K hK => ?_)
                                    · skip
                                      refine box_step ?hg (N := 8) ?hd (cs := #[.bool false, .int .i64 0, .int .i64 0, .string (⟨#[]⟩ : ByteArray)]) (t := 26) ?hr ?_; (case hd => rfl); (case hg => rfl); (case hr => first | (go_simp; done) | (go_simp; rfl))
                                      intro gb176 hg w41 hbox hb
                                      have HS2_ := (hb.cell (World.block_lt_of_cell? _ _ (hHeld.2.2.1))).trans (hHeld.2.2.1)
                                      have HS3_ := (hb.cell (World.block_lt_of_cell? _ _ (hHeld.2.2.2.1))).trans (hHeld.2.2.2.1)
                                      have HS4_ := (hb.cell (World.block_lt_of_cell? _ _ (hHeld.2.2.2.2.1))).trans (hHeld.2.2.2.2.1)
                                      have HS5_ := (hb.cell (World.block_lt_of_cell? _ _ (hHeld.2.2.2.2.2.1))).trans (hHeld.2.2.2.2.2.1)
                                      have HS6_ := (hb.cell (World.block_lt_of_cell? _ _ (hHeld.2.2.2.2.2.2.1))).trans (hHeld.2.2.2.2.2.2.1)
                                      have HS7_ := (hb.cell (World.block_lt_of_cell? _ _ (hHeld.2.2.2.2.2.2.2.1))).trans (hHeld.2.2.2.2.2.2.2.1)
                                      have HS8_ := (hb.cell (World.block_lt_of_cell? _ _ (hHeld.2.2.2.2.2.2.2.2.1))).trans (hHeld.2.2.2.2.2.2.2.2.1)
                                      have HS9_ := (hb.cell (World.block_lt_of_cell? _ _ (hHeld.2.2.2.2.2.2.2.2.2))).trans (hHeld.2.2.2.2.2.2.2.2.2)
                                      have n0_ := Aside0.mk (Kd.R_below (Kd.R_elderB (by (with_reducible repeat (first | apply Kd.R_alloc | apply Kd.R_drewN | apply Kd.R_drew)); exact HO_5.out) gb176 (Nat.le_of_eq hg.symm)) hb)
                                      have n1_ := Aside0.mk (blk_below (g := gb155) (o := .cells #[.int .i64 a0_0, .slice (some ad164) l0_1.length c0_1] 59 (0, 0)) (by (with_reducible repeat (first | refine blk_drewN ?_ _ | refine blk_drew ?_ | refine blk_alloc ?_ _)); exact BK155.out) hb)
                                      have n2_ := Aside0.mk (blk_below (g := gb165) (o := .cells #[.int .i64 ((rd_T87 l0_1 x6_2).f0), .int .i64 ((rd_T87 l0_1 x6_2).f1)] 87 (0, 0)) (by (with_reducible repeat (first | refine blk_drewN ?_ _ | refine blk_drew ?_ | refine blk_alloc ?_ _)); exact BK165.out) hb)
                                      have n3_ := Aside0.mk (below_step (by repeat (first | (with_reducible first | exact HB.out | apply below_alloc | apply pw_below_drewN | apply below_drew1 | refine below_set ?_ GE155.out | refine below_set ?_ GE165.out) | exact HB.out)) hb)
                                      have n4_ := Aside0.mk (hbox)
                                      have n5_ := Aside0.mk ((by rw [hg]; exact (below_size (by repeat (first | (with_reducible first | exact HB.out | apply below_alloc | apply pw_below_drewN | apply below_drew1 | refine below_set ?_ GE155.out | refine below_set ?_ GE165.out) | exact HB.out))) : w.heap.size ≤ gb176))
                                      have n6_ := Aside0.mk ((by rw [hg]; exact (below_size (by repeat (first | (with_reducible first | exact HB.out | apply below_alloc | apply pw_below_drewN | apply below_drew1 | refine below_set ?_ GE155.out | refine below_set ?_ GE165.out) | exact HB.out))) : w.heap.size ≤ gb176))
                                      have n7_ := Aside0.mk ((by rw [hg]; exact Nat.ne_of_lt (blk_lt (g := gb155) (o := .cells #[.int .i64 a0_0, .slice (some ad164) l0_1.length c0_1] 59 (0, 0)) (by (with_reducible repeat (first | refine blk_drewN ?_ _ | refine blk_drew ?_ | refine blk_alloc ?_ _)); exact BK155.out)) : gb155 ≠ gb176))
                                      have n8_ := Aside0.mk ((by rw [hg]; exact Nat.ne_of_gt (blk_lt (g := gb155) (o := .cells #[.int .i64 a0_0, .slice (some ad164) l0_1.length c0_1] 59 (0, 0)) (by (with_reducible repeat (first | refine blk_drewN ?_ _ | refine blk_drew ?_ | refine blk_alloc ?_ _)); exact BK155.out)) : gb176 ≠ gb155))
                                      have n9_ := Aside0.mk ((by rw [hg]; exact Nat.ne_of_lt (blk_lt (g := gb165) (o := .cells #[.int .i64 ((rd_T87 l0_1 x6_2).f0), .int .i64 ((rd_T87 l0_1 x6_2).f1)] 87 (0, 0)) (by (with_reducible repeat (first | refine blk_drewN ?_ _ | refine blk_drew ?_ | refine blk_alloc ?_ _)); exact BK165.out)) : gb165 ≠ gb176))
                                      have n10_ := Aside0.mk ((by rw [hg]; exact Nat.ne_of_gt (blk_lt (g := gb165) (o := .cells #[.int .i64 ((rd_T87 l0_1 x6_2).f0), .int .i64 ((rd_T87 l0_1 x6_2).f1)] 87 (0, 0)) (by (with_reducible repeat (first | refine blk_drewN ?_ _ | refine blk_drew ?_ | refine blk_alloc ?_ _)); exact BK165.out)) : gb176 ≠ gb165))
                                      clear HO_5
                                      clear BK155
                                      clear BK165
                                      clear HB
                                      have HO_5 := n0_
                                      have BK155 := n1_
                                      have BK165 := n2_
                                      have HB := n3_
                                      have BK176 := n4_
                                      have GW176 := n5_
                                      have GE176 := n6_
                                      have NB155_176 := n7_
                                      have NB176_155 := n8_
                                      have NB165_176 := n9_
                                      have NB176_165 := n10_
                                      clear n0_ n1_ n2_ n3_ n4_ n5_ n6_ n7_ n8_ n9_ n10_
                                      clear hb hbox hg
                                      refine hK.out _ _ ⟨(blk_cell BK165.out 0).trans rfl, (blk_cell BK165.out 1).trans rfl, HS2_, HS3_, HS4_, HS5_, HS6_, HS7_, HS8_, HS9_⟩ (fun hHeld => ?_)
                                      clear hK K
                                      refine norm_ (a' := ?_) ?_ ?_
                                      rotate_left
                                      · show Act.put _ (some 8) _ = _
                                        simp only [Act.put, List.setIfInBounds_toArray, List.set_cons_zero, List.set_cons_succ, i64_w, i32_w]
                                        rfl
                                      exact norm_ (by first | (simp only [putAll, Act.put, List.setIfInBounds_toArray, List.set_cons_zero, List.set_cons_succ]; done) | (simp only [putAll, Act.put, List.setIfInBounds_toArray, List.set_cons_zero, List.set_cons_succ]; rfl)) (hJ10_14 (gb176) _ ⟨hHeld, (by (with_reducible repeat (first | apply Kd.R_alloc | apply Kd.R_drewN | apply Kd.R_drew)); exact Kd.R_mono HO_5.out (fun _ hk => by first | exact hk.2 | trivial)), (by (with_reducible repeat (first | refine blk_drewN ?_ _ | refine blk_drew ?_ | refine blk_alloc ?_ _)); exact BK155.out), (by (with_reducible repeat (first | refine blk_drewN ?_ _ | refine blk_drew ?_ | refine blk_alloc ?_ _)); exact BK165.out), (by (with_reducible repeat (first | refine blk_drewN ?_ _ | refine blk_drew ?_ | refine blk_alloc ?_ _)); exact BK176.out), GW176.out, GE176.out, NB155_176.out, NB176_155.out, NB165_176.out, NB176_165.out, (by repeat (first | (with_reducible first | exact HB.out | apply below_alloc | apply pw_below_drewN | apply below_drew1 | refine below_set ?_ GE155.out | refine below_set ?_ GE165.out | refine below_set ?_ GE176.out) | exact HB.out))⟩)
                                    · skip
                                      refine box_step ?hg (N := 9) ?hd (cs := #[.bool false, .int .i64 0, .int .i64 0, .string (⟨#[]⟩ : ByteArray)]) (t := 26) ?hr ?_; (case hd => rfl); (case hg => rfl); (case hr => first | (go_simp; done) | (go_simp; rfl))
                                      intro gb177 hg w41 hbox hb
                                      have HS2_ := (hb.cell (World.block_lt_of_cell? _ _ (hHeld.2.2.1))).trans (hHeld.2.2.1)
                                      have HS3_ := (hb.cell (World.block_lt_of_cell? _ _ (hHeld.2.2.2.1))).trans (hHeld.2.2.2.1)
                                      have HS4_ := (hb.cell (World.block_lt_of_cell? _ _ (hHeld.2.2.2.2.1))).trans (hHeld.2.2.2.2.1)
                                      have HS5_ := (hb.cell (World.block_lt_of_cell? _ _ (hHeld.2.2.2.2.2.1))).trans (hHeld.2.2.2.2.2.1)
                                      have HS6_ := (hb.cell (World.block_lt_of_cell? _ _ (hHeld.2.2.2.2.2.2.1))).trans (hHeld.2.2.2.2.2.2.1)
                                      have HS7_ := (hb.cell (World.block_lt_of_cell? _ _ (hHeld.2.2.2.2.2.2.2.1))).trans (hHeld.2.2.2.2.2.2.2.1)
                                      have HS8_ := (hb.cell (World.block_lt_of_cell? _ _ (hHeld.2.2.2.2.2.2.2.2.1))).trans (hHeld.2.2.2.2.2.2.2.2.1)
                                      have HS9_ := (hb.cell (World.block_lt_of_cell? _ _ (hHeld.2.2.2.2.2.2.2.2.2))).trans (hHeld.2.2.2.2.2.2.2.2.2)
                                      have n0_ := Aside0.mk (Kd.R_below (Kd.R_elderB (by (with_reducible repeat (first | apply Kd.R_alloc | apply Kd.R_drewN | apply Kd.R_drew)); exact HO_5.out) gb177 (Nat.le_of_eq hg.symm)) hb)
                                      have n1_ := Aside0.mk (blk_below (g := gb155) (o := .cells #[.int .i64 a0_0, .slice (some ad164) l0_1.length c0_1] 59 (0, 0)) (by (with_reducible repeat (first | refine blk_drewN ?_ _ | refine blk_drew ?_ | refine blk_alloc ?_ _)); exact BK155.out) hb)
                                      have n2_ := Aside0.mk (blk_below (g := gb165) (o := .cells #[.int .i64 ((rd_T87 l0_1 x6_2).f0), .int .i64 ((rd_T87 l0_1 x6_2).f1)] 87 (0, 0)) (by (with_reducible repeat (first | refine blk_drewN ?_ _ | refine blk_drew ?_ | refine blk_alloc ?_ _)); exact BK165.out) hb)
                                      have n3_ := Aside0.mk (below_step (by repeat (first | (with_reducible first | exact HB.out | apply below_alloc | apply pw_below_drewN | apply below_drew1 | refine below_set ?_ GE155.out | refine below_set ?_ GE165.out) | exact HB.out)) hb)
                                      have n4_ := Aside0.mk (hbox)
                                      have n5_ := Aside0.mk ((by rw [hg]; exact (below_size (by repeat (first | (with_reducible first | exact HB.out | apply below_alloc | apply pw_below_drewN | apply below_drew1 | refine below_set ?_ GE155.out | refine below_set ?_ GE165.out) | exact HB.out))) : w.heap.size ≤ gb177))
                                      have n6_ := Aside0.mk ((by rw [hg]; exact (below_size (by repeat (first | (with_reducible first | exact HB.out | apply below_alloc | apply pw_below_drewN | apply below_drew1 | refine below_set ?_ GE155.out | refine below_set ?_ GE165.out) | exact HB.out))) : w.heap.size ≤ gb177))
                                      have n7_ := Aside0.mk ((by rw [hg]; exact Nat.ne_of_lt (blk_lt (g := gb155) (o := .cells #[.int .i64 a0_0, .slice (some ad164) l0_1.length c0_1] 59 (0, 0)) (by (with_reducible repeat (first | refine blk_drewN ?_ _ | refine blk_drew ?_ | refine blk_alloc ?_ _)); exact BK155.out)) : gb155 ≠ gb177))
                                      have n8_ := Aside0.mk ((by rw [hg]; exact Nat.ne_of_gt (blk_lt (g := gb155) (o := .cells #[.int .i64 a0_0, .slice (some ad164) l0_1.length c0_1] 59 (0, 0)) (by (with_reducible repeat (first | refine blk_drewN ?_ _ | refine blk_drew ?_ | refine blk_alloc ?_ _)); exact BK155.out)) : gb177 ≠ gb155))
                                      have n9_ := Aside0.mk ((by rw [hg]; exact Nat.ne_of_lt (blk_lt (g := gb165) (o := .cells #[.int .i64 ((rd_T87 l0_1 x6_2).f0), .int .i64 ((rd_T87 l0_1 x6_2).f1)] 87 (0, 0)) (by (with_reducible repeat (first | refine blk_drewN ?_ _ | refine blk_drew ?_ | refine blk_alloc ?_ _)); exact BK165.out)) : gb165 ≠ gb177))
                                      have n10_ := Aside0.mk ((by rw [hg]; exact Nat.ne_of_gt (blk_lt (g := gb165) (o := .cells #[.int .i64 ((rd_T87 l0_1 x6_2).f0), .int .i64 ((rd_T87 l0_1 x6_2).f1)] 87 (0, 0)) (by (with_reducible repeat (first | refine blk_drewN ?_ _ | refine blk_drew ?_ | refine blk_alloc ?_ _)); exact BK165.out)) : gb177 ≠ gb165))
                                      clear HO_5
                                      clear BK155
                                      clear BK165
                                      clear HB
                                      have HO_5 := n0_
                                      have BK155 := n1_
                                      have BK165 := n2_
                                      have HB := n3_
                                      have BK177 := n4_
                                      have GW177 := n5_
                                      have GE177 := n6_
                                      have NB155_177 := n7_
                                      have NB177_155 := n8_
                                      have NB165_177 := n9_
                                      have NB177_165 := n10_
                                      clear n0_ n1_ n2_ n3_ n4_ n5_ n6_ n7_ n8_ n9_ n10_
                                      clear hb hbox hg
                                      refine hK.out _ _ ⟨(blk_cell BK165.out 0).trans rfl, (blk_cell BK165.out 1).trans rfl, HS2_, HS3_, HS4_, HS5_, HS6_, HS7_, HS8_, HS9_⟩ (fun hHeld => ?_)
                                      clear hK K
                                      refine norm_ (a' := ?_) ?_ ?_
                                      rotate_left
                                      · show Act.put _ (some 9) _ = _
                                        simp only [Act.put, List.setIfInBounds_toArray, List.set_cons_zero, List.set_cons_succ, i64_w, i32_w]
                                        rfl
                                      exact norm_ (by first | (simp only [putAll, Act.put, List.setIfInBounds_toArray, List.set_cons_zero, List.set_cons_succ]; done) | (simp only [putAll, Act.put, List.setIfInBounds_toArray, List.set_cons_zero, List.set_cons_succ]; rfl)) (hJ10_15 (gb177) _ ⟨hHeld, (by (with_reducible repeat (first | apply Kd.R_alloc | apply Kd.R_drewN | apply Kd.R_drew)); exact Kd.R_mono HO_5.out (fun _ hk => by first | exact hk.2 | trivial)), (by (with_reducible repeat (first | refine blk_drewN ?_ _ | refine blk_drew ?_ | refine blk_alloc ?_ _)); exact BK155.out), (by (with_reducible repeat (first | refine blk_drewN ?_ _ | refine blk_drew ?_ | refine blk_alloc ?_ _)); exact BK165.out), (by (with_reducible repeat (first | refine blk_drewN ?_ _ | refine blk_drew ?_ | refine blk_alloc ?_ _)); exact BK177.out), GW177.out, GE177.out, NB155_177.out, NB177_155.out, NB165_177.out, NB177_165.out, (by repeat (first | (with_reducible first | exact HB.out | apply below_alloc | apply pw_below_drewN | apply below_drew1 | refine below_set ?_ GE155.out | refine below_set ?_ GE165.out | refine below_set ?_ GE177.out) | exact HB.out))⟩)
                                · skip
                                  rintro ⟨gb176, gb177⟩ w41 ⟨hS_, h0_, h1_, h2_, h3_, h4_, h5_, h6_, h7_, h8_, h9_, h10_, h11_, h12_, h13_, h14_, h15_, h16_, h17_, h18_, h19_⟩
                                  have n0_ : Aside0 (Kd.R k26 26 w41 w.heap.size (fun k_ => k_ ≠ gb176 ∧ k_ ≠ gb177) (.slice (some ad166) x5_2.length co38) x5_2) := ⟨h0_⟩
                                  have n1_ : Aside0 (w41.heap[gb155]? = some (.cells #[.int .i64 a0_0, .slice (some ad164) l0_1.length c0_1] 59 (0, 0))) := ⟨h1_⟩
                                  have n2_ : Aside0 (w41.heap[gb165]? = some (.cells #[.int .i64 ((rd_T87 l0_1 x6_2).f0), .int .i64 ((rd_T87 l0_1 x6_2).f1)] 87 (0, 0))) := ⟨h2_⟩
                                  have n3_ : Aside0 (w41.heap[gb176]? = some (.cells #[.bool false, .int .i64 0, .int .i64 0, .string (⟨#[]⟩ : ByteArray)] 26 (0, 0))) := ⟨h3_⟩
                                  have n4_ : Aside0 (w41.heap[gb177]? = some (.cells #[.bool false, .int .i64 0, .int .i64 0, .string (⟨#[]⟩ : ByteArray)] 26 (0, 0))) := ⟨h4_⟩
                                  have n5_ : Aside0 (w.heap.size ≤ gb176) := ⟨h5_⟩
                                  have n6_ : Aside0 (w.heap.size ≤ gb176) := ⟨h6_⟩
                                  have n7_ : Aside0 (gb155 ≠ gb176) := ⟨h7_⟩
                                  have n8_ : Aside0 (gb176 ≠ gb155) := ⟨h8_⟩
                                  have n9_ : Aside0 (gb165 ≠ gb176) := ⟨h9_⟩
                                  have n10_ : Aside0 (gb176 ≠ gb165) := ⟨h10_⟩
                                  have n11_ : Aside0 (gb177 ≠ gb176) := ⟨h11_⟩
                                  have n12_ : Aside0 (gb176 ≠ gb177) := ⟨h12_⟩
                                  have n13_ : Aside0 (w.heap.size ≤ gb177) := ⟨h13_⟩
                                  have n14_ : Aside0 (w.heap.size ≤ gb177) := ⟨h14_⟩
                                  have n15_ : Aside0 (gb155 ≠ gb177) := ⟨h15_⟩
                                  have n16_ : Aside0 (gb177 ≠ gb155) := ⟨h16_⟩
                                  have n17_ : Aside0 (gb165 ≠ gb177) := ⟨h17_⟩
                                  have n18_ : Aside0 (gb177 ≠ gb165) := ⟨h18_⟩
                                  have n19_ : Aside0 (Below w.heap.size w w41) := ⟨h19_⟩
                                  clear HO_5
                                  clear BK155
                                  clear BK165
                                  clear HB
                                  clear h0_ h1_ h2_ h3_ h4_ h5_ h6_ h7_ h8_ h9_ h10_ h11_ h12_ h13_ h14_ h15_ h16_ h17_ h18_ h19_
                                  have HO_5 := n0_
                                  have BK155 := n1_
                                  have BK165 := n2_
                                  have BK176 := n3_
                                  have BK177 := n4_
                                  have GW176 := n5_
                                  have GE176 := n6_
                                  have NB155_176 := n7_
                                  have NB176_155 := n8_
                                  have NB165_176 := n9_
                                  have NB176_165 := n10_
                                  have NB177_176 := n11_
                                  have NB176_177 := n12_
                                  have GW177 := n13_
                                  have GE177 := n14_
                                  have NB155_177 := n15_
                                  have NB177_155 := n16_
                                  have NB165_177 := n17_
                                  have NB177_165 := n18_
                                  have HB := n19_
                                  clear n0_ n1_ n2_ n3_ n4_ n5_ n6_ n7_ n8_ n9_ n10_ n11_ n12_ n13_ n14_ n15_ n16_ n17_ n18_ n19_
                                  have hHeld : w41.cell? ⟨gb165, 0, none⟩ = some (.int .i64 ((rd_T87 l0_1 x6_2).f0)) ∧ w41.cell? ⟨gb165, 1, none⟩ = some (.int .i64 ((rd_T87 l0_1 x6_2).f1)) ∧ w41.cell? (ad166.add ((((rd_T87 l0_1 x6_2).f0)).toNat * 4)) = some (.bool ((rd_T26 x5_2 ((rd_T87 l0_1 x6_2).f0)).f0)) ∧ w41.cell? ⟨(ad166.add ((((rd_T87 l0_1 x6_2).f0)).toNat * 4)).block, (ad166.add ((((rd_T87 l0_1 x6_2).f0)).toNat * 4)).off + 1, none⟩ = some (.int .i64 ((rd_T26 x5_2 ((rd_T87 l0_1 x6_2).f0)).f1)) ∧ w41.cell? ⟨(ad166.add ((((rd_T87 l0_1 x6_2).f0)).toNat * 4)).block, (ad166.add ((((rd_T87 l0_1 x6_2).f0)).toNat * 4)).off + 2, none⟩ = some (.int .i64 ((rd_T26 x5_2 ((rd_T87 l0_1 x6_2).f0)).f2)) ∧ w41.cell? ⟨(ad166.add ((((rd_T87 l0_1 x6_2).f0)).toNat * 4)).block, (ad166.add ((((rd_T87 l0_1 x6_2).f0)).toNat * 4)).off + 3, none⟩ = some (.string ((rd_T26 x5_2 ((rd_T87 l0_1 x6_2).f0)).f3)) ∧ w41.cell? (ad166.add ((((rd_T87 l0_1 x6_2).f1)).toNat * 4)) = some (.bool ((rd_T26 x5_2 ((rd_T87 l0_1 x6_2).f1)).f0)) ∧ w41.cell? ⟨(ad166.add ((((rd_T87 l0_1 x6_2).f1)).toNat * 4)).block, (ad166.add ((((rd_T87 l0_1 x6_2).f1)).toNat * 4)).off + 1, none⟩ = some (.int .i64 ((rd_T26 x5_2 ((rd_T87 l0_1 x6_2).f1)).f1)) ∧ w41.cell? ⟨(ad166.add ((((rd_T87 l0_1 x6_2).f1)).toNat * 4)).block, (ad166.add ((((rd_T87 l0_1 x6_2).f1)).toNat * 4)).off + 2, none⟩ = some (.int .i64 ((rd_T26 x5_2 ((rd_T87 l0_1 x6_2).f1)).f2)) ∧ w41.cell? ⟨(ad166.add ((((rd_T87 l0_1 x6_2).f1)).toNat * 4)).block, (ad166.add ((((rd_T87 l0_1 x6_2).f1)).toNat * 4)).off + 3, none⟩ = some (.string ((rd_T26 x5_2 ((rd_T87 l0_1 x6_2).f1)).f3)) := hS_
                                  refine norm_ (a' := ?_) ?_ ?_
                                  rotate_left
                                  · simp only [putAll, Act.put, List.setIfInBounds_toArray, List.set_cons_zero, List.set_cons_succ]
                                    rfl
                                  refine one_ (i := 10) (N := some 51) #[true, true, true, true, true, true, true, true, true, true, true, false, false, false, true, true, false, false] rfl rfl (one_of HT_.out (by kernel_rfl)) (by decide) (fun K hK => ?_)
                                  refine goes_ Try.func33 (by kernel_rfl) rfl #[.agg #[.bool ((rd_T26 x5_2 ((rd_T87 l0_1 x6_2).f0)).f0), .int .i64 ((rd_T26 x5_2 ((rd_T87 l0_1 x6_2).f0)).f1), .int .i64 ((rd_T26 x5_2 ((rd_T87 l0_1 x6_2).f0)).f2), .string ((rd_T26 x5_2 ((rd_T87 l0_1 x6_2).f0)).f3)], .agg #[.bool ((rd_T26 x5_2 ((rd_T87 l0_1 x6_2).f1)).f0), .int .i64 ((rd_T26 x5_2 ((rd_T87 l0_1 x6_2).f1)).f1), .int .i64 ((rd_T26 x5_2 ((rd_T87 l0_1 x6_2).f1)).f2), .string ((rd_T26 x5_2 ((rd_T87 l0_1 x6_2).f1)).f3)]] (by rfl) rfl rfl (by (try simp only [List.map_toArray, List.map_cons, List.map_nil]); first | done | rfl | (simp only [List.length_drop, List.length_take]; rfl)) ?_
                                  with_reducible refine (spec_RecPair.calls k2 ((rd_T26 x5_2 ((rd_T87 l0_1 x6_2).f0)).f0) ((rd_T26 x5_2 ((rd_T87 l0_1 x6_2).f0)).f1) ((rd_T26 x5_2 ((rd_T87 l0_1 x6_2).f0)).f2) ((rd_T26 x5_2 ((rd_T87 l0_1 x6_2).f0)).f3) ((rd_T26 x5_2 ((rd_T87 l0_1 x6_2).f1)).f0) ((rd_T26 x5_2 ((rd_T87 l0_1 x6_2).f1)).f1) ((rd_T26 x5_2 ((rd_T87 l0_1 x6_2).f1)).f2) ((rd_T26 x5_2 ((rd_T87 l0_1 x6_2).f1)).f3) t168 t169 t170 t171 t172 t173 t174 t175 _ A29.out).mono ?_
                                  rintro e w42 ⟨rfl, hb⟩
                                  have HS2_ := (hb.cell (World.block_lt_of_cell? _ _ (hHeld.2.2.1))).trans (hHeld.2.2.1)
                                  have HS3_ := (hb.cell (World.block_lt_of_cell? _ _ (hHeld.2.2.2.1))).trans (hHeld.2.2.2.1)
                                  have HS4_ := (hb.cell (World.block_lt_of_cell? _ _ (hHeld.2.2.2.2.1))).trans (hHeld.2.2.2.2.1)
                                  have HS5_ := (hb.cell (World.block_lt_of_cell? _ _ (hHeld.2.2.2.2.2.1))).trans (hHeld.2.2.2.2.2.1)
                                  have HS6_ := (hb.cell (World.block_lt_of_cell? _ _ (hHeld.2.2.2.2.2.2.1))).trans (hHeld.2.2.2.2.2.2.1)
                                  have HS7_ := (hb.cell (World.block_lt_of_cell? _ _ (hHeld.2.2.2.2.2.2.2.1))).trans (hHeld.2.2.2.2.2.2.2.1)
                                  have HS8_ := (hb.cell (World.block_lt_of_cell? _ _ (hHeld.2.2.2.2.2.2.2.2.1))).trans (hHeld.2.2.2.2.2.2.2.2.1)
                                  have HS9_ := (hb.cell (World.block_lt_of_cell? _ _ (hHeld.2.2.2.2.2.2.2.2.2))).trans (hHeld.2.2.2.2.2.2.2.2.2)
                                  refine ⟨_, rfl, ?_⟩
                                  have n0_ := Aside0.mk (Kd.R_below (by (with_reducible repeat (first | apply Kd.R_alloc | apply Kd.R_drewN | apply Kd.R_drew)); exact HO_5.out) hb)
                                  have n1_ := Aside0.mk (blk_below (g := gb155) (o := .cells #[.int .i64 a0_0, .slice (some ad164) l0_1.length c0_1] 59 (0, 0)) (by (with_reducible repeat (first | refine blk_drewN ?_ _ | refine blk_drew ?_ | refine blk_alloc ?_ _)); exact BK155.out) hb)
                                  have n2_ := Aside0.mk (blk_below (g := gb165) (o := .cells #[.int .i64 ((rd_T87 l0_1 x6_2).f0), .int .i64 ((rd_T87 l0_1 x6_2).f1)] 87 (0, 0)) (by (with_reducible repeat (first | refine blk_drewN ?_ _ | refine blk_drew ?_ | refine blk_alloc ?_ _)); exact BK165.out) hb)
                                  have n3_ := Aside0.mk (blk_below (g := gb176) (o := .cells #[.bool false, .int .i64 0, .int .i64 0, .string (⟨#[]⟩ : ByteArray)] 26 (0, 0)) (by (with_reducible repeat (first | refine blk_drewN ?_ _ | refine blk_drew ?_ | refine blk_alloc ?_ _)); exact BK176.out) hb)
                                  have n4_ := Aside0.mk (blk_below (g := gb177) (o := .cells #[.bool false, .int .i64 0, .int .i64 0, .string (⟨#[]⟩ : ByteArray)] 26 (0, 0)) (by (with_reducible repeat (first | refine blk_drewN ?_ _ | refine blk_drew ?_ | refine blk_alloc ?_ _)); exact BK177.out) hb)
                                  have n5_ := Aside0.mk (below_step (by repeat (first | (with_reducible first | exact HB.out | apply below_alloc | apply pw_below_drewN | apply below_drew1 | refine below_set ?_ GE155.out | refine below_set ?_ GE165.out | refine below_set ?_ GE176.out | refine below_set ?_ GE177.out) | exact HB.out)) hb)
                                  clear HO_5
                                  clear BK155
                                  clear BK165
                                  clear BK176
                                  clear BK177
                                  clear HB
                                  have HO_5 := n0_
                                  have BK155 := n1_
                                  have BK165 := n2_
                                  have BK176 := n3_
                                  have BK177 := n4_
                                  have HB := n5_
                                  clear n0_ n1_ n2_ n3_ n4_ n5_
                                  (try clear hb)
                                  (try clear hb2)
                                  (try clear hk)
                                  (try clear hi)
                                  refine hK.out _ _ ⟨(blk_cell BK165.out 0).trans rfl, (blk_cell BK165.out 1).trans rfl, HS2_, HS3_, HS4_, HS5_, HS6_, HS7_, HS8_, HS9_⟩ (fun hHeld => ?_)
                                  clear hK K
                                  refine norm_ (a' := ?_) ?_ ?_
                                  rotate_left
                                  · show Act.put _ (some 51) _ = _
                                    simp only [Act.put, List.setIfInBounds_toArray, List.set_cons_zero, List.set_cons_succ, i64_w, i32_w]
                                    rfl
                                  refine pure_ (i := 11) (N := some 40) (v := ?_) (a' := ?_) #[true, true, true, true, true, true, true, true, true, true, true, true, false, false, true, true, false, false] rfl rfl (any_of HT_.out (by kernel_rfl)) (fun _ _ _ h => h) (Or.inl ⟨by rfl, ?_⟩) ?_ ?_
                                  rotate_left
                                  · intro w'
                                    go_simp
                                    with_reducible rfl
                                  rotate_left
                                  · simp only [Act.put, List.setIfInBounds_toArray, List.set_cons_zero, List.set_cons_succ, i64_w, i32_w]
                                    rfl
                                  refine pure_ (i := 12) (N := some 52) (v := ?_) (a' := ?_) #[true, true, true, true, true, true, true, true, true, true, true, true, true, false, true, true, false, false] rfl rfl (any_of HT_.out (by kernel_rfl)) (fun _ _ _ h => h) (Or.inl ⟨by rfl, ?_⟩) ?_ ?_
                                  rotate_left
                                  · intro w'
                                    go_simp
                                    with_reducible rfl
                                  rotate_left
                                  · simp only [Act.put, List.setIfInBounds_toArray, List.set_cons_zero, List.set_cons_succ, i64_w, i32_w]
                                    rfl
                                  refine pure_ (i := 13) (N := some 53) (v := ?_) (a' := ?_) #[true, true, true, true, true, true, true, true, true, true, true, true, true, true, true, true, false, false] rfl rfl (any_of HT_.out (by kernel_rfl)) (fun _ _ _ h => h) (Or.inl ⟨by rfl, ?_⟩) ?_ ?_
                                  rotate_left
                                  · intro w'
                                    go_simp
                                    with_reducible rfl
                                  rotate_left
                                  · simp only [Act.put, List.setIfInBounds_toArray, List.set_cons_zero, List.set_cons_succ, i64_w, i32_w]
                                    rfl
                                  exact norm_ (by first | (simp only [putAll, Act.put, List.setIfInBounds_toArray, List.set_cons_zero, List.set_cons_succ]; done) | (simp only [putAll, Act.put, List.setIfInBounds_toArray, List.set_cons_zero, List.set_cons_succ]; rfl)) (hJ10_14_15 (gb176, gb177) _ ⟨hHeld, (by (with_reducible repeat (first | apply Kd.R_alloc | apply Kd.R_drewN | apply Kd.R_drew)); exact HO_5.out), (by (with_reducible repeat (first | refine blk_drewN ?_ _ | refine blk_drew ?_ | refine blk_alloc ?_ _)); exact BK155.out), (by (with_reducible repeat (first | refine blk_drewN ?_ _ | refine blk_drew ?_ | refine blk_alloc ?_ _)); exact BK165.out), (by (with_reducible repeat (first | refine blk_drewN ?_ _ | refine blk_drew ?_ | refine blk_alloc ?_ _)); exact BK176.out), (by (with_reducible repeat (first | refine blk_drewN ?_ _ | refine blk_drew ?_ | refine blk_alloc ?_ _)); exact BK177.out), GW176.out, GE176.out, NB155_176.out, NB176_155.out, NB165_176.out, NB176_165.out, NB177_176.out, NB176_177.out, GW177.out, GE177.out, NB155_177.out, NB177_155.out, NB165_177.out, NB177_165.out, (by repeat (first | (with_reducible first | exact HB.out | apply below_alloc | apply pw_below_drewN | apply below_drew1 | refine below_set ?_ GE155.out | refine below_set ?_ GE165.out | refine below_set ?_ GE176.out | refine below_set ?_ GE177.out) | exact HB.out))⟩)
                              · skip
                                rintro gb177 w41 ⟨hS_, h0_, h1_, h2_, h3_, h4_, h5_, h6_, h7_, h8_, h9_, h10_⟩
                                have n0_ : Aside0 (Kd.R k26 26 w41 w.heap.size (fun k_ => k_ ≠ gb177) (.slice (some ad166) x5_2.length co38) x5_2) := ⟨h0_⟩
                                have n1_ : Aside0 (w41.heap[gb155]? = some (.cells #[.int .i64 a0_0, .slice (some ad164) l0_1.length c0_1] 59 (0, 0))) := ⟨h1_⟩
                                have n2_ : Aside0 (w41.heap[gb165]? = some (.cells #[.int .i64 ((rd_T87 l0_1 x6_2).f0), .int .i64 ((rd_T87 l0_1 x6_2).f1)] 87 (0, 0))) := ⟨h2_⟩
                                have n3_ : Aside0 (w41.heap[gb177]? = some (.cells #[.bool false, .int .i64 0, .int .i64 0, .string (⟨#[]⟩ : ByteArray)] 26 (0, 0))) := ⟨h3_⟩
                                have n4_ : Aside0 (w.heap.size ≤ gb177) := ⟨h4_⟩
                                have n5_ : Aside0 (w.heap.size ≤ gb177) := ⟨h5_⟩
                                have n6_ : Aside0 (gb155 ≠ gb177) := ⟨h6_⟩
                                have n7_ : Aside0 (gb177 ≠ gb155) := ⟨h7_⟩
                                have n8_ : Aside0 (gb165 ≠ gb177) := ⟨h8_⟩
                                have n9_ : Aside0 (gb177 ≠ gb165) := ⟨h9_⟩
                                have n10_ : Aside0 (Below w.heap.size w w41) := ⟨h10_⟩
                                clear HO_5
                                clear BK155
                                clear BK165
                                clear HB
                                clear h0_ h1_ h2_ h3_ h4_ h5_ h6_ h7_ h8_ h9_ h10_
                                have HO_5 := n0_
                                have BK155 := n1_
                                have BK165 := n2_
                                have BK177 := n3_
                                have GW177 := n4_
                                have GE177 := n5_
                                have NB155_177 := n6_
                                have NB177_155 := n7_
                                have NB165_177 := n8_
                                have NB177_165 := n9_
                                have HB := n10_
                                clear n0_ n1_ n2_ n3_ n4_ n5_ n6_ n7_ n8_ n9_ n10_
                                have hHeld : w41.cell? ⟨gb165, 0, none⟩ = some (.int .i64 ((rd_T87 l0_1 x6_2).f0)) ∧ w41.cell? ⟨gb165, 1, none⟩ = some (.int .i64 ((rd_T87 l0_1 x6_2).f1)) ∧ w41.cell? (ad166.add ((((rd_T87 l0_1 x6_2).f0)).toNat * 4)) = some (.bool ((rd_T26 x5_2 ((rd_T87 l0_1 x6_2).f0)).f0)) ∧ w41.cell? ⟨(ad166.add ((((rd_T87 l0_1 x6_2).f0)).toNat * 4)).block, (ad166.add ((((rd_T87 l0_1 x6_2).f0)).toNat * 4)).off + 1, none⟩ = some (.int .i64 ((rd_T26 x5_2 ((rd_T87 l0_1 x6_2).f0)).f1)) ∧ w41.cell? ⟨(ad166.add ((((rd_T87 l0_1 x6_2).f0)).toNat * 4)).block, (ad166.add ((((rd_T87 l0_1 x6_2).f0)).toNat * 4)).off + 2, none⟩ = some (.int .i64 ((rd_T26 x5_2 ((rd_T87 l0_1 x6_2).f0)).f2)) ∧ w41.cell? ⟨(ad166.add ((((rd_T87 l0_1 x6_2).f0)).toNat * 4)).block, (ad166.add ((((rd_T87 l0_1 x6_2).f0)).toNat * 4)).off + 3, none⟩ = some (.string ((rd_T26 x5_2 ((rd_T87 l0_1 x6_2).f0)).f3)) ∧ w41.cell? (ad166.add ((((rd_T87 l0_1 x6_2).f1)).toNat * 4)) = some (.bool ((rd_T26 x5_2 ((rd_T87 l0_1 x6_2).f1)).f0)) ∧ w41.cell? ⟨(ad166.add ((((rd_T87 l0_1 x6_2).f1)).toNat * 4)).block, (ad166.add ((((rd_T87 l0_1 x6_2).f1)).toNat * 4)).off + 1, none⟩ = some (.int .i64 ((rd_T26 x5_2 ((rd_T87 l0_1 x6_2).f1)).f1)) ∧ w41.cell? ⟨(ad166.add ((((rd_T87 l0_1 x6_2).f1)).toNat * 4)).block, (ad166.add ((((rd_T87 l0_1 x6_2).f1)).toNat * 4)).off + 2, none⟩ = some (.int .i64 ((rd_T26 x5_2 ((rd_T87 l0_1 x6_2).f1)).f2)) ∧ w41.cell? ⟨(ad166.add ((((rd_T87 l0_1 x6_2).f1)).toNat * 4)).block, (ad166.add ((((rd_T87 l0_1 x6_2).f1)).toNat * 4)).off + 3, none⟩ = some (.string ((rd_T26 x5_2 ((rd_T87 l0_1 x6_2).f1)).f3)) := hS_
                                refine norm_ (a' := ?_) ?_ ?_
                                rotate_left
                                · simp only [putAll, Act.put, List.setIfInBounds_toArray, List.set_cons_zero, List.set_cons_succ]
                                  rfl
                                refine one_ (i := 14) (N := some 8) #[true, true, true, true, true, true, true, true, true, true, true, true, true, true, true, true, false, false] rfl rfl (one_of HT_.out (by kernel_rfl)) (by decide) (fun K hK => ?_)
                                refine box_step ?hg (N := 8) ?hd (cs := #[.bool false, .int .i64 0, .int .i64 0, .string (⟨#[]⟩ : ByteArray)]) (t := 26) ?hr ?_; (case hd => rfl); (case hg => rfl); (case hr => first | (go_simp; done) | (go_simp; rfl))
                                intro gb176 hg w42 hbox hb
                                have HS2_ := (hb.cell (World.block_lt_of_cell? _ _ (hHeld.2.2.1))).trans (hHeld.2.2.1)
                                have HS3_ := (hb.cell (World.block_lt_of_cell? _ _ (hHeld.2.2.2.1))).trans (hHeld.2.2.2.1)
                                have HS4_ := (hb.cell (World.block_lt_of_cell? _ _ (hHeld.2.2.2.2.1))).trans (hHeld.2.2.2.2.1)
                                have HS5_ := (hb.cell (World.block_lt_of_cell? _ _ (hHeld.2.2.2.2.2.1))).trans (hHeld.2.2.2.2.2.1)
                                have HS6_ := (hb.cell (World.block_lt_of_cell? _ _ (hHeld.2.2.2.2.2.2.1))).trans (hHeld.2.2.2.2.2.2.1)
                                have HS7_ := (hb.cell (World.block_lt_of_cell? _ _ (hHeld.2.2.2.2.2.2.2.1))).trans (hHeld.2.2.2.2.2.2.2.1)
                                have HS8_ := (hb.cell (World.block_lt_of_cell? _ _ (hHeld.2.2.2.2.2.2.2.2.1))).trans (hHeld.2.2.2.2.2.2.2.2.1)
                                have HS9_ := (hb.cell (World.block_lt_of_cell? _ _ (hHeld.2.2.2.2.2.2.2.2.2))).trans (hHeld.2.2.2.2.2.2.2.2.2)
                                have n0_ := Aside0.mk (Kd.R_below (Kd.R_elderB (by (with_reducible repeat (first | apply Kd.R_alloc | apply Kd.R_drewN | apply Kd.R_drew)); exact HO_5.out) gb176 (Nat.le_of_eq hg.symm)) hb)
                                have n1_ := Aside0.mk (blk_below (g := gb155) (o := .cells #[.int .i64 a0_0, .slice (some ad164) l0_1.length c0_1] 59 (0, 0)) (by (with_reducible repeat (first | refine blk_drewN ?_ _ | refine blk_drew ?_ | refine blk_alloc ?_ _)); exact BK155.out) hb)
                                have n2_ := Aside0.mk (blk_below (g := gb165) (o := .cells #[.int .i64 ((rd_T87 l0_1 x6_2).f0), .int .i64 ((rd_T87 l0_1 x6_2).f1)] 87 (0, 0)) (by (with_reducible repeat (first | refine blk_drewN ?_ _ | refine blk_drew ?_ | refine blk_alloc ?_ _)); exact BK165.out) hb)
                                have n3_ := Aside0.mk (blk_below (g := gb177) (o := .cells #[.bool false, .int .i64 0, .int .i64 0, .string (⟨#[]⟩ : ByteArray)] 26 (0, 0)) (by (with_reducible repeat (first | refine blk_drewN ?_ _ | refine blk_drew ?_ | refine blk_alloc ?_ _)); exact BK177.out) hb)
                                have n4_ := Aside0.mk (below_step (by repeat (first | (with_reducible first | exact HB.out | apply below_alloc | apply pw_below_drewN | apply below_drew1 | refine below_set ?_ GE155.out | refine below_set ?_ GE165.out | refine below_set ?_ GE177.out) | exact HB.out)) hb)
                                have n5_ := Aside0.mk (hbox)
                                have n6_ := Aside0.mk ((by rw [hg]; exact (below_size (by repeat (first | (with_reducible first | exact HB.out | apply below_alloc | apply pw_below_drewN | apply below_drew1 | refine below_set ?_ GE155.out | refine below_set ?_ GE165.out | refine below_set ?_ GE177.out) | exact HB.out))) : w.heap.size ≤ gb176))
                                have n7_ := Aside0.mk ((by rw [hg]; exact (below_size (by repeat (first | (with_reducible first | exact HB.out | apply below_alloc | apply pw_below_drewN | apply below_drew1 | refine below_set ?_ GE155.out | refine below_set ?_ GE165.out | refine below_set ?_ GE177.out) | exact HB.out))) : w.heap.size ≤ gb176))
                                have n8_ := Aside0.mk ((by rw [hg]; exact Nat.ne_of_lt (blk_lt (g := gb155) (o := .cells #[.int .i64 a0_0, .slice (some ad164) l0_1.length c0_1] 59 (0, 0)) (by (with_reducible repeat (first | refine blk_drewN ?_ _ | refine blk_drew ?_ | refine blk_alloc ?_ _)); exact BK155.out)) : gb155 ≠ gb176))
                                have n9_ := Aside0.mk ((by rw [hg]; exact Nat.ne_of_gt (blk_lt (g := gb155) (o := .cells #[.int .i64 a0_0, .slice (some ad164) l0_1.length c0_1] 59 (0, 0)) (by (with_reducible repeat (first | refine blk_drewN ?_ _ | refine blk_drew ?_ | refine blk_alloc ?_ _)); exact BK155.out)) : gb176 ≠ gb155))
                                have n10_ := Aside0.mk ((by rw [hg]; exact Nat.ne_of_lt (blk_lt (g := gb165) (o := .cells #[.int .i64 ((rd_T87 l0_1 x6_2).f0), .int .i64 ((rd_T87 l0_1 x6_2).f1)] 87 (0, 0)) (by (with_reducible repeat (first | refine blk_drewN ?_ _ | refine blk_drew ?_ | refine blk_alloc ?_ _)); exact BK165.out)) : gb165 ≠ gb176))
                                have n11_ := Aside0.mk ((by rw [hg]; exact Nat.ne_of_gt (blk_lt (g := gb165) (o := .cells #[.int .i64 ((rd_T87 l0_1 x6_2).f0), .int .i64 ((rd_T87 l0_1 x6_2).f1)] 87 (0, 0)) (by (with_reducible repeat (first | refine blk_drewN ?_ _ | refine blk_drew ?_ | refine blk_alloc ?_ _)); exact BK165.out)) : gb176 ≠ gb165))
                                have n12_ := Aside0.mk ((by rw [hg]; exact Nat.ne_of_lt (blk_lt (g := gb177) (o := .cells #[.bool false, .int .i64 0, .int .i64 0, .string (⟨#[]⟩ : ByteArray)] 26 (0, 0)) (by (with_reducible repeat (first | refine blk_drewN ?_ _ | refine blk_drew ?_ | refine blk_alloc ?_ _)); exact BK177.out)) : gb177 ≠ gb176))
                                have n13_ := Aside0.mk ((by rw [hg]; exact Nat.ne_of_gt (blk_lt (g := gb177) (o := .cells #[.bool false, .int .i64 0, .int .i64 0, .string (⟨#[]⟩ : ByteArray)] 26 (0, 0)) (by (with_reducible repeat (first | refine blk_drewN ?_ _ | refine blk_drew ?_ | refine blk_alloc ?_ _)); exact BK177.out)) : gb176 ≠ gb177))
                                clear HO_5
                                clear BK155
                                clear BK165
                                clear BK177
                                clear HB
                                have HO_5 := n0_
                                have BK155 := n1_
                                have BK165 := n2_
                                have BK177 := n3_
                                have HB := n4_
                                have BK176 := n5_
                                have GW176 := n6_
                                have GE176 := n7_
                                have NB155_176 := n8_
                                have NB176_155 := n9_
                                have NB165_176 := n10_
                                have NB176_165 := n11_
                                have NB177_176 := n12_
                                have NB176_177 := n13_
                                clear n0_ n1_ n2_ n3_ n4_ n5_ n6_ n7_ n8_ n9_ n10_ n11_ n12_ n13_
                                clear hb hbox hg
                                refine hK.out _ _ ⟨(blk_cell BK165.out 0).trans rfl, (blk_cell BK165.out 1).trans rfl, HS2_, HS3_, HS4_, HS5_, HS6_, HS7_, HS8_, HS9_⟩ (fun hHeld => ?_)
                                clear hK K
                                refine norm_ (a' := ?_) ?_ ?_
                                rotate_left
                                · show Act.put _ (some 8) _ = _
                                  simp only [Act.put, List.setIfInBounds_toArray, List.set_cons_zero, List.set_cons_succ, i64_w, i32_w]
                                  rfl
                                exact norm_ (by first | (simp only [putAll, Act.put, List.setIfInBounds_toArray, List.set_cons_zero, List.set_cons_succ]; done) | (simp only [putAll, Act.put, List.setIfInBounds_toArray, List.set_cons_zero, List.set_cons_succ]; rfl)) (hJ10_14_15 (gb176, gb177) _ ⟨hHeld, (by (with_reducible repeat (first | apply Kd.R_alloc | apply Kd.R_drewN | apply Kd.R_drew)); exact Kd.R_mono HO_5.out (fun _ hk => ⟨hk.2, hk.1⟩)), (by (with_reducible repeat (first | refine blk_drewN ?_ _ | refine blk_drew ?_ | refine blk_alloc ?_ _)); exact BK155.out), (by (with_reducible repeat (first | refine blk_drewN ?_ _ | refine blk_drew ?_ | refine blk_alloc ?_ _)); exact BK165.out), (by (with_reducible repeat (first | refine blk_drewN ?_ _ | refine blk_drew ?_ | refine blk_alloc ?_ _)); exact BK176.out), (by (with_reducible repeat (first | refine blk_drewN ?_ _ | refine blk_drew ?_ | refine blk_alloc ?_ _)); exact BK177.out), GW176.out, GE176.out, NB155_176.out, NB176_155.out, NB165_176.out, NB176_165.out, NB177_176.out, NB176_177.out, GW177.out, GE177.out, NB155_177.out, NB177_155.out, NB165_177.out, NB177_165.out, (by repeat (first | (with_reducible first | exact HB.out | apply below_alloc | apply pw_below_drewN | apply below_drew1 | refine below_set ?_ GE155.out | refine below_set ?_ GE165.out | refine below_set ?_ GE177.out | refine below_set ?_ GE176.out) | exact HB.out))⟩)
                            · skip
                              rintro gb176 w41 ⟨hS_, h0_, h1_, h2_, h3_, h4_, h5_, h6_, h7_, h8_, h9_, h10_⟩
                              have n0_ : Aside0 (Kd.R k26 26 w41 w.heap.size (fun k_ => k_ ≠ gb176) (.slice (some ad166) x5_2.length co38) x5_2) := ⟨h0_⟩
                              have n1_ : Aside0 (w41.heap[gb155]? = some (.cells #[.int .i64 a0_0, .slice (some ad164) l0_1.length c0_1] 59 (0, 0))) := ⟨h1_⟩
                              have n2_ : Aside0 (w41.heap[gb165]? = some (.cells #[.int .i64 ((rd_T87 l0_1 x6_2).f0), .int .i64 ((rd_T87 l0_1 x6_2).f1)] 87 (0, 0))) := ⟨h2_⟩
                              have n3_ : Aside0 (w41.heap[gb176]? = some (.cells #[.bool false, .int .i64 0, .int .i64 0, .string (⟨#[]⟩ : ByteArray)] 26 (0, 0))) := ⟨h3_⟩
                              have n4_ : Aside0 (w.heap.size ≤ gb176) := ⟨h4_⟩
                              have n5_ : Aside0 (w.heap.size ≤ gb176) := ⟨h5_⟩
                              have n6_ : Aside0 (gb155 ≠ gb176) := ⟨h6_⟩
                              have n7_ : Aside0 (gb176 ≠ gb155) := ⟨h7_⟩
                              have n8_ : Aside0 (gb165 ≠ gb176) := ⟨h8_⟩
                              have n9_ : Aside0 (gb176 ≠ gb165) := ⟨h9_⟩
                              have n10_ : Aside0 (Below w.heap.size w w41) := ⟨h10_⟩
                              clear HO_5
                              clear BK155
                              clear BK165
                              clear HB
                              clear h0_ h1_ h2_ h3_ h4_ h5_ h6_ h7_ h8_ h9_ h10_
                              have HO_5 := n0_
                              have BK155 := n1_
                              have BK165 := n2_
                              have BK176 := n3_
                              have GW176 := n4_
                              have GE176 := n5_
                              have NB155_176 := n6_
                              have NB176_155 := n7_
                              have NB165_176 := n8_
                              have NB176_165 := n9_
                              have HB := n10_
                              clear n0_ n1_ n2_ n3_ n4_ n5_ n6_ n7_ n8_ n9_ n10_
                              have hHeld : w41.cell? ⟨gb165, 0, none⟩ = some (.int .i64 ((rd_T87 l0_1 x6_2).f0)) ∧ w41.cell? ⟨gb165, 1, none⟩ = some (.int .i64 ((rd_T87 l0_1 x6_2).f1)) ∧ w41.cell? (ad166.add ((((rd_T87 l0_1 x6_2).f0)).toNat * 4)) = some (.bool ((rd_T26 x5_2 ((rd_T87 l0_1 x6_2).f0)).f0)) ∧ w41.cell? ⟨(ad166.add ((((rd_T87 l0_1 x6_2).f0)).toNat * 4)).block, (ad166.add ((((rd_T87 l0_1 x6_2).f0)).toNat * 4)).off + 1, none⟩ = some (.int .i64 ((rd_T26 x5_2 ((rd_T87 l0_1 x6_2).f0)).f1)) ∧ w41.cell? ⟨(ad166.add ((((rd_T87 l0_1 x6_2).f0)).toNat * 4)).block, (ad166.add ((((rd_T87 l0_1 x6_2).f0)).toNat * 4)).off + 2, none⟩ = some (.int .i64 ((rd_T26 x5_2 ((rd_T87 l0_1 x6_2).f0)).f2)) ∧ w41.cell? ⟨(ad166.add ((((rd_T87 l0_1 x6_2).f0)).toNat * 4)).block, (ad166.add ((((rd_T87 l0_1 x6_2).f0)).toNat * 4)).off + 3, none⟩ = some (.string ((rd_T26 x5_2 ((rd_T87 l0_1 x6_2).f0)).f3)) ∧ w41.cell? (ad166.add ((((rd_T87 l0_1 x6_2).f1)).toNat * 4)) = some (.bool ((rd_T26 x5_2 ((rd_T87 l0_1 x6_2).f1)).f0)) ∧ w41.cell? ⟨(ad166.add ((((rd_T87 l0_1 x6_2).f1)).toNat * 4)).block, (ad166.add ((((rd_T87 l0_1 x6_2).f1)).toNat * 4)).off + 1, none⟩ = some (.int .i64 ((rd_T26 x5_2 ((rd_T87 l0_1 x6_2).f1)).f1)) ∧ w41.cell? ⟨(ad166.add ((((rd_T87 l0_1 x6_2).f1)).toNat * 4)).block, (ad166.add ((((rd_T87 l0_1 x6_2).f1)).toNat * 4)).off + 2, none⟩ = some (.int .i64 ((rd_T26 x5_2 ((rd_T87 l0_1 x6_2).f1)).f2)) ∧ w41.cell? ⟨(ad166.add ((((rd_T87 l0_1 x6_2).f1)).toNat * 4)).block, (ad166.add ((((rd_T87 l0_1 x6_2).f1)).toNat * 4)).off + 3, none⟩ = some (.string ((rd_T26 x5_2 ((rd_T87 l0_1 x6_2).f1)).f3)) := hS_
                              refine norm_ (a' := ?_) ?_ ?_
                              rotate_left
                              · simp only [putAll, Act.put, List.setIfInBounds_toArray, List.set_cons_zero, List.set_cons_succ]
                                rfl
                              refine one_ (i := 15) (N := some 9) #[true, true, true, true, true, true, true, true, true, true, true, true, true, true, true, true, false, false] rfl rfl (one_of HT_.out (by kernel_rfl)) (by decide) (fun K hK => ?_)
                              refine box_step ?hg (N := 9) ?hd (cs := #[.bool false, .int .i64 0, .int .i64 0, .string (⟨#[]⟩ : ByteArray)]) (t := 26) ?hr ?_; (case hd => rfl); (case hg => rfl); (case hr => first | (go_simp; done) | (go_simp; rfl))
                              intro gb177 hg w42 hbox hb
                              have HS2_ := (hb.cell (World.block_lt_of_cell? _ _ (hHeld.2.2.1))).trans (hHeld.2.2.1)
                              have HS3_ := (hb.cell (World.block_lt_of_cell? _ _ (hHeld.2.2.2.1))).trans (hHeld.2.2.2.1)
                              have HS4_ := (hb.cell (World.block_lt_of_cell? _ _ (hHeld.2.2.2.2.1))).trans (hHeld.2.2.2.2.1)
                              have HS5_ := (hb.cell (World.block_lt_of_cell? _ _ (hHeld.2.2.2.2.2.1))).trans (hHeld.2.2.2.2.2.1)
                              have HS6_ := (hb.cell (World.block_lt_of_cell? _ _ (hHeld.2.2.2.2.2.2.1))).trans (hHeld.2.2.2.2.2.2.1)
                              have HS7_ := (hb.cell (World.block_lt_of_cell? _ _ (hHeld.2.2.2.2.2.2.2.1))).trans (hHeld.2.2.2.2.2.2.2.1)
                              have HS8_ := (hb.cell (World.block_lt_of_cell? _ _ (hHeld.2.2.2.2.2.2.2.2.1))).trans (hHeld.2.2.2.2.2.2.2.2.1)
                              have HS9_ := (hb.cell (World.block_lt_of_cell? _ _ (hHeld.2.2.2.2.2.2.2.2.2))).trans (hHeld.2.2.2.2.2.2.2.2.2)
                              have n0_ := Aside0.mk (Kd.R_below (Kd.R_elderB (by (with_reducible repeat (first | apply Kd.R_alloc | apply Kd.R_drewN | apply Kd.R_drew)); exact HO_5.out) gb177 (Nat.le_of_eq hg.symm)) hb)
                              have n1_ := Aside0.mk (blk_below (g := gb155) (o := .cells #[.int .i64 a0_0, .slice (some ad164) l0_1.length c0_1] 59 (0, 0)) (by (with_reducible repeat (first | refine blk_drewN ?_ _ | refine blk_drew ?_ | refine blk_alloc ?_ _)); exact BK155.out) hb)
                              have n2_ := Aside0.mk (blk_below (g := gb165) (o := .cells #[.int .i64 ((rd_T87 l0_1 x6_2).f0), .int .i64 ((rd_T87 l0_1 x6_2).f1)] 87 (0, 0)) (by (with_reducible repeat (first | refine blk_drewN ?_ _ | refine blk_drew ?_ | refine blk_alloc ?_ _)); exact BK165.out) hb)
                              have n3_ := Aside0.mk (blk_below (g := gb176) (o := .cells #[.bool false, .int .i64 0, .int .i64 0, .string (⟨#[]⟩ : ByteArray)] 26 (0, 0)) (by (with_reducible repeat (first | refine blk_drewN ?_ _ | refine blk_drew ?_ | refine blk_alloc ?_ _)); exact BK176.out) hb)
                              have n4_ := Aside0.mk (below_step (by repeat (first | (with_reducible first | exact HB.out | apply below_alloc | apply pw_below_drewN | apply below_drew1 | refine below_set ?_ GE155.out | refine below_set ?_ GE165.out | refine below_set ?_ GE176.out) | exact HB.out)) hb)
                              have n5_ := Aside0.mk (hbox)
                              have n6_ := Aside0.mk ((by rw [hg]; exact (below_size (by repeat (first | (with_reducible first | exact HB.out | apply below_alloc | apply pw_below_drewN | apply below_drew1 | refine below_set ?_ GE155.out | refine below_set ?_ GE165.out | refine below_set ?_ GE176.out) | exact HB.out))) : w.heap.size ≤ gb177))
                              have n7_ := Aside0.mk ((by rw [hg]; exact (below_size (by repeat (first | (with_reducible first | exact HB.out | apply below_alloc | apply pw_below_drewN | apply below_drew1 | refine below_set ?_ GE155.out | refine below_set ?_ GE165.out | refine below_set ?_ GE176.out) | exact HB.out))) : w.heap.size ≤ gb177))
                              have n8_ := Aside0.mk ((by rw [hg]; exact Nat.ne_of_lt (blk_lt (g := gb155) (o := .cells #[.int .i64 a0_0, .slice (some ad164) l0_1.length c0_1] 59 (0, 0)) (by (with_reducible repeat (first | refine blk_drewN ?_ _ | refine blk_drew ?_ | refine blk_alloc ?_ _)); exact BK155.out)) : gb155 ≠ gb177))
                              have n9_ := Aside0.mk ((by rw [hg]; exact Nat.ne_of_gt (blk_lt (g := gb155) (o := .cells #[.int .i64 a0_0, .slice (some ad164) l0_1.length c0_1] 59 (0, 0)) (by (with_reducible repeat (first | refine blk_drewN ?_ _ | refine blk_drew ?_ | refine blk_alloc ?_ _)); exact BK155.out)) : gb177 ≠ gb155))
                              have n10_ := Aside0.mk ((by rw [hg]; exact Nat.ne_of_lt (blk_lt (g := gb165) (o := .cells #[.int .i64 ((rd_T87 l0_1 x6_2).f0), .int .i64 ((rd_T87 l0_1 x6_2).f1)] 87 (0, 0)) (by (with_reducible repeat (first | refine blk_drewN ?_ _ | refine blk_drew ?_ | refine blk_alloc ?_ _)); exact BK165.out)) : gb165 ≠ gb177))
                              have n11_ := Aside0.mk ((by rw [hg]; exact Nat.ne_of_gt (blk_lt (g := gb165) (o := .cells #[.int .i64 ((rd_T87 l0_1 x6_2).f0), .int .i64 ((rd_T87 l0_1 x6_2).f1)] 87 (0, 0)) (by (with_reducible repeat (first | refine blk_drewN ?_ _ | refine blk_drew ?_ | refine blk_alloc ?_ _)); exact BK165.out)) : gb177 ≠ gb165))
                              have n12_ := Aside0.mk ((by rw [hg]; exact Nat.ne_of_lt (blk_lt (g := gb176) (o := .cells #[.bool false, .int .i64 0, .int .i64 0, .string (⟨#[]⟩ : ByteArray)] 26 (0, 0)) (by (with_reducible repeat (first | refine blk_drewN ?_ _ | refine blk_drew ?_ | refine blk_alloc ?_ _)); exact BK176.out)) : gb176 ≠ gb177))
                              have n13_ := Aside0.mk ((by rw [hg]; exact Nat.ne_of_gt (blk_lt (g := gb176) (o := .cells #[.bool false, .int .i64 0, .int .i64 0, .string (⟨#[]⟩ : ByteArray)] 26 (0, 0)) (by (with_reducible repeat (first | refine blk_drewN ?_ _ | refine blk_drew ?_ | refine blk_alloc ?_ _)); exact BK176.out)) : gb177 ≠ gb176))
                              clear HO_5
                              clear BK155
                              clear BK165
                              clear BK176
                              clear HB
                              have HO_5 := n0_
                              have BK155 := n1_
                              have BK165 := n2_
                              have BK176 := n3_
                              have HB := n4_
                              have BK177 := n5_
                              have GW177 := n6_
                              have GE177 := n7_
                              have NB155_177 := n8_
                              have NB177_155 := n9_
                              have NB165_177 := n10_
                              have NB177_165 := n11_
                              have NB176_177 := n12_
                              have NB177_176 := n13_
                              clear n0_ n1_ n2_ n3_ n4_ n5_ n6_ n7_ n8_ n9_ n10_ n11_ n12_ n13_
                              clear hb hbox hg
                              refine hK.out _ _ ⟨(blk_cell BK165.out 0).trans rfl, (blk_cell BK165.out 1).trans rfl, HS2_, HS3_, HS4_, HS5_, HS6_, HS7_, HS8_, HS9_⟩ (fun hHeld => ?_)
                              clear hK K
                              refine norm_ (a' := ?_) ?_ ?_
                              rotate_left
                              · show Act.put _ (some 9) _ = _
                                simp only [Act.put, List.setIfInBounds_toArray, List.set_cons_zero, List.set_cons_succ, i64_w, i32_w]
                                rfl
                              exact norm_ (by first | (simp only [putAll, Act.put, List.setIfInBounds_toArray, List.set_cons_zero, List.set_cons_succ]; done) | (simp only [putAll, Act.put, List.setIfInBounds_toArray, List.set_cons_zero, List.set_cons_succ]; rfl)) (hJ10_14_15 (gb176, gb177) _ ⟨hHeld, (by (with_reducible repeat (first | apply Kd.R_alloc | apply Kd.R_drewN | apply Kd.R_drew)); exact HO_5.out), (by (with_reducible repeat (first | refine blk_drewN ?_ _ | refine blk_drew ?_ | refine blk_alloc ?_ _)); exact BK155.out), (by (with_reducible repeat (first | refine blk_drewN ?_ _ | refine blk_drew ?_ | refine blk_alloc ?_ _)); exact BK165.out), (by (with_reducible repeat (first | refine blk_drewN ?_ _ | refine blk_drew ?_ | refine blk_alloc ?_ _)); exact BK176.out), (by (with_reducible repeat (first | refine blk_drewN ?_ _ | refine blk_drew ?_ | refine blk_alloc ?_ _)); exact BK177.out), GW176.out, GE176.out, NB155_176.out, NB176_155.out, NB165_176.out, NB176_165.out, NB177_176.out, NB176_177.out, GW177.out, GE177.out, NB155_177.out, NB177_155.out, NB165_177.out, NB177_165.out, (by repeat (first | (with_reducible first | exact HB.out | apply below_alloc | apply pw_below_drewN | apply below_drew1 | refine below_set ?_ GE155.out | refine below_set ?_ GE165.out | refine below_set ?_ GE176.out | refine below_set ?_ GE177.out) | exact HB.out))⟩)
                          rintro ⟨gb176, gb177⟩ w42 ⟨hS_, h0_, h1_, h2_, h3_, h4_, h5_, h6_, h7_, h8_, h9_, h10_, h11_, h12_, h13_, h14_, h15_, h16_, h17_, h18_, h19_⟩
                          have n0_ : Aside0 (Kd.R k26 26 w42 w.heap.size (fun k_ => k_ ≠ gb176 ∧ k_ ≠ gb177) (.slice (some ad166) x5_2.length co38) x5_2) := ⟨h0_⟩
                          have n1_ : Aside0 (w42.heap[gb155]? = some (.cells #[.int .i64 a0_0, .slice (some ad164) l0_1.length c0_1] 59 (0, 0))) := ⟨h1_⟩
                          have n2_ : Aside0 (w42.heap[gb165]? = some (.cells #[.int .i64 ((rd_T87 l0_1 x6_2).f0), .int .i64 ((rd_T87 l0_1 x6_2).f1)] 87 (0, 0))) := ⟨h2_⟩
                          have n3_ : Aside0 (w42.heap[gb176]? = some (.cells #[.bool false, .int .i64 0, .int .i64 0, .string (⟨#[]⟩ : ByteArray)] 26 (0, 0))) := ⟨h3_⟩
                          have n4_ : Aside0 (w42.heap[gb177]? = some (.cells #[.bool false, .int .i64 0, .int .i64 0, .string (⟨#[]⟩ : ByteArray)] 26 (0, 0))) := ⟨h4_⟩
                          have n5_ : Aside0 (w.heap.size ≤ gb176) := ⟨h5_⟩
                          have n6_ : Aside0 (w.heap.size ≤ gb176) := ⟨h6_⟩
                          have n7_ : Aside0 (gb155 ≠ gb176) := ⟨h7_⟩
                          have n8_ : Aside0 (gb176 ≠ gb155) := ⟨h8_⟩
                          have n9_ : Aside0 (gb165 ≠ gb176) := ⟨h9_⟩
                          have n10_ : Aside0 (gb176 ≠ gb165) := ⟨h10_⟩
                          have n11_ : Aside0 (gb177 ≠ gb176) := ⟨h11_⟩
                          have n12_ : Aside0 (gb176 ≠ gb177) := ⟨h12_⟩
                          have n13_ : Aside0 (w.heap.size ≤ gb177) := ⟨h13_⟩
                          have n14_ : Aside0 (w.heap.size ≤ gb177) := ⟨h14_⟩
                          have n15_ : Aside0 (gb155 ≠ gb177) := ⟨h15_⟩
                          have n16_ : Aside0 (gb177 ≠ gb155) := ⟨h16_⟩
                          have n17_ : Aside0 (gb165 ≠ gb177) := ⟨h17_⟩
                          have n18_ : Aside0 (gb177 ≠ gb165) := ⟨h18_⟩
                          have n19_ : Aside0 (Below w.heap.size w w42) := ⟨h19_⟩
                          clear HO_5
                          clear BK155
                          clear BK165
                          clear HB
                          clear h0_ h1_ h2_ h3_ h4_ h5_ h6_ h7_ h8_ h9_ h10_ h11_ h12_ h13_ h14_ h15_ h16_ h17_ h18_ h19_
                          have HO_5 := n0_
                          have BK155 := n1_
                          have BK165 := n2_
                          have BK176 := n3_
                          have BK177 := n4_
                          have GW176 := n5_
                          have GE176 := n6_
                          have NB155_176 := n7_
                          have NB176_155 := n8_
                          have NB165_176 := n9_
                          have NB176_165 := n10_
                          have NB177_176 := n11_
                          have NB176_177 := n12_
                          have GW177 := n13_
                          have GE177 := n14_
                          have NB155_177 := n15_
                          have NB177_155 := n16_
                          have NB165_177 := n17_
                          have NB177_165 := n18_
                          have HB := n19_
                          clear n0_ n1_ n2_ n3_ n4_ n5_ n6_ n7_ n8_ n9_ n10_ n11_ n12_ n13_ n14_ n15_ n16_ n17_ n18_ n19_
                          have hHeld : w42.cell? ⟨gb165, 0, none⟩ = some (.int .i64 ((rd_T87 l0_1 x6_2).f0)) ∧ w42.cell? ⟨gb165, 1, none⟩ = some (.int .i64 ((rd_T87 l0_1 x6_2).f1)) ∧ w42.cell? (ad166.add ((((rd_T87 l0_1 x6_2).f0)).toNat * 4)) = some (.bool ((rd_T26 x5_2 ((rd_T87 l0_1 x6_2).f0)).f0)) ∧ w42.cell? ⟨(ad166.add ((((rd_T87 l0_1 x6_2).f0)).toNat * 4)).block, (ad166.add ((((rd_T87 l0_1 x6_2).f0)).toNat * 4)).off + 1, none⟩ = some (.int .i64 ((rd_T26 x5_2 ((rd_T87 l0_1 x6_2).f0)).f1)) ∧ w42.cell? ⟨(ad166.add ((((rd_T87 l0_1 x6_2).f0)).toNat * 4)).block, (ad166.add ((((rd_T87 l0_1 x6_2).f0)).toNat * 4)).off + 2, none⟩ = some (.int .i64 ((rd_T26 x5_2 ((rd_T87 l0_1 x6_2).f0)).f2)) ∧ w42.cell? ⟨(ad166.add ((((rd_T87 l0_1 x6_2).f0)).toNat * 4)).block, (ad166.add ((((rd_T87 l0_1 x6_2).f0)).toNat * 4)).off + 3, none⟩ = some (.string ((rd_T26 x5_2 ((rd_T87 l0_1 x6_2).f0)).f3)) ∧ w42.cell? (ad166.add ((((rd_T87 l0_1 x6_2).f1)).toNat * 4)) = some (.bool ((rd_T26 x5_2 ((rd_T87 l0_1 x6_2).f1)).f0)) ∧ w42.cell? ⟨(ad166.add ((((rd_T87 l0_1 x6_2).f1)).toNat * 4)).block, (ad166.add ((((rd_T87 l0_1 x6_2).f1)).toNat * 4)).off + 1, none⟩ = some (.int .i64 ((rd_T26 x5_2 ((rd_T87 l0_1 x6_2).f1)).f1)) ∧ w42.cell? ⟨(ad166.add ((((rd_T87 l0_1 x6_2).f1)).toNat * 4)).block, (ad166.add ((((rd_T87 l0_1 x6_2).f1)).toNat * 4)).off + 2, none⟩ = some (.int .i64 ((rd_T26 x5_2 ((rd_T87 l0_1 x6_2).f1)).f2)) ∧ w42.cell? ⟨(ad166.add ((((rd_T87 l0_1 x6_2).f1)).toNat * 4)).block, (ad166.add ((((rd_T87 l0_1 x6_2).f1)).toNat * 4)).off + 3, none⟩ = some (.string ((rd_T26 x5_2 ((rd_T87 l0_1 x6_2).f1)).f3)) := hS_
                          refine norm_ (a' := ?_) ?_ ?_
                          rotate_left
                          · simp only [putAll, Act.put, List.setIfInBounds_toArray, List.set_cons_zero, List.set_cons_succ]
                            rfl
                          refine one_ (i := 16) (N := none) #[true, true, true, true, true, true, true, true, true, true, true, true, true, true, true, true, true, false] rfl rfl (one_of HT_.out (by kernel_rfl)) (by decide) (fun K hK => ?_)
                          have hs43 : w42.cell? ⟨gb176, 0, none⟩ = some (.bool false) := (blk_cell BK176.out 0).trans rfl
                          have hfs43 := blk_frozen BK176.out 0
                          have hns43_0 := NB155_176.out
                          have hns43_1 := NB165_176.out
                          have hns43_3 := NB177_176.out
                          have hms43_0 := NB176_155.out
                          have hms43_1 := NB176_165.out
                          have hms43_3 := NB176_177.out
                          have hs44 : w42.cell? ⟨gb176, 1, none⟩ = some (.int .i64 0) := (blk_cell BK176.out 1).trans rfl
                          have hfs44 := blk_frozen BK176.out 1
                          have hns44_0 := NB155_176.out
                          have hns44_1 := NB165_176.out
                          have hns44_3 := NB177_176.out
                          have hms44_0 := NB176_155.out
                          have hms44_1 := NB176_165.out
                          have hms44_3 := NB176_177.out
                          have hs45 : w42.cell? ⟨gb176, 2, none⟩ = some (.int .i64 0) := (blk_cell BK176.out 2).trans rfl
                          have hfs45 := blk_frozen BK176.out 2
                          have hns45_0 := NB155_176.out
                          have hns45_1 := NB165_176.out
                          have hns45_3 := NB177_176.out
                          have hms45_0 := NB176_155.out
                          have hms45_1 := NB176_165.out
                          have hms45_3 := NB176_177.out
                          have hs46 : w42.cell? ⟨gb176, 3, none⟩ = some (.string (⟨#[]⟩ : ByteArray)) := (blk_cell BK176.out 3).trans rfl
                          have hfs46 := blk_frozen BK176.out 3
                          have hns46_0 := NB155_176.out
                          have hns46_1 := NB165_176.out
                          have hns46_3 := NB177_176.out
                          have hms46_0 := NB176_155.out
                          have hms46_1 := NB176_165.out
                          have hms46_3 := NB176_177.out
                          refine skip_ (w1 := ?_) (by rfl) rfl ?_ ?_
                          rotate_left
                          · go_simp
                            rfl
                          refine hK.out _ _ ⟨((cell_far (p := ⟨gb176, _, none⟩) NB165_176.out _).trans (((cell_far (p := ⟨gb176, _, none⟩) NB165_176.out _).trans (((cell_far (p := ⟨gb176, _, none⟩) NB165_176.out _).trans (((cell_far (p := ⟨gb176, _, none⟩) NB165_176.out _).trans (hHeld.1)))))))), ((cell_far (p := ⟨gb176, _, none⟩) NB165_176.out _).trans (((cell_far (p := ⟨gb176, _, none⟩) NB165_176.out _).trans (((cell_far (p := ⟨gb176, _, none⟩) NB165_176.out _).trans (((cell_far (p := ⟨gb176, _, none⟩) NB165_176.out _).trans (hHeld.2.1)))))))), ((cell_far (p := ⟨gb176, _, none⟩) (by first | exact Kd.own_blk (Kd.R_away HO_5.out (fun _ hk => by first | exact hk.1 | trivial)) | (rw [add_block]; exact Kd.own_blk (Kd.R_away HO_5.out (fun _ hk => by first | exact hk.1 | trivial))) | (show (Addr.add _ _).block ≠ _; rw [add_block]; exact Kd.own_blk (Kd.R_away HO_5.out (fun _ hk => by first | exact hk.1 | trivial))) | (dsimp only; exact Kd.own_blk (Kd.R_away HO_5.out (fun _ hk => by first | exact hk.1 | trivial)))) _).trans (((cell_far (p := ⟨gb176, _, none⟩) (by first | exact Kd.own_blk (Kd.R_away HO_5.out (fun _ hk => by first | exact hk.1 | trivial)) | (rw [add_block]; exact Kd.own_blk (Kd.R_away HO_5.out (fun _ hk => by first | exact hk.1 | trivial))) | (show (Addr.add _ _).block ≠ _; rw [add_block]; exact Kd.own_blk (Kd.R_away HO_5.out (fun _ hk => by first | exact hk.1 | trivial))) | (dsimp only; exact Kd.own_blk (Kd.R_away HO_5.out (fun _ hk => by first | exact hk.1 | trivial)))) _).trans (((cell_far (p := ⟨gb176, _, none⟩) (by first | exact Kd.own_blk (Kd.R_away HO_5.out (fun _ hk => by first | exact hk.1 | trivial)) | (rw [add_block]; exact Kd.own_blk (Kd.R_away HO_5.out (fun _ hk => by first | exact hk.1 | trivial))) | (show (Addr.add _ _).block ≠ _; rw [add_block]; exact Kd.own_blk (Kd.R_away HO_5.out (fun _ hk => by first | exact hk.1 | trivial))) | (dsimp only; exact Kd.own_blk (Kd.R_away HO_5.out (fun _ hk => by first | exact hk.1 | trivial)))) _).trans (((cell_far (p := ⟨gb176, _, none⟩) (by first | exact Kd.own_blk (Kd.R_away HO_5.out (fun _ hk => by first | exact hk.1 | trivial)) | (rw [add_block]; exact Kd.own_blk (Kd.R_away HO_5.out (fun _ hk => by first | exact hk.1 | trivial))) | (show (Addr.add _ _).block ≠ _; rw [add_block]; exact Kd.own_blk (Kd.R_away HO_5.out (fun _ hk => by first | exact hk.1 | trivial))) | (dsimp only; exact Kd.own_blk (Kd.R_away HO_5.out (fun _ hk => by first | exact hk.1 | trivial)))) _).trans (hHeld.2.2.1)))))))), ((cell_far (p := ⟨gb176, _, none⟩) (by first | exact Kd.own_blk (Kd.R_away HO_5.out (fun _ hk => by first | exact hk.1 | trivial)) | (rw [add_block]; exact Kd.own_blk (Kd.R_away HO_5.out (fun _ hk => by first | exact hk.1 | trivial))) | (show (Addr.add _ _).block ≠ _; rw [add_block]; exact Kd.own_blk (Kd.R_away HO_5.out (fun _ hk => by first | exact hk.1 | trivial))) | (dsimp only; exact Kd.own_blk (Kd.R_away HO_5.out (fun _ hk => by first | exact hk.1 | trivial)))) _).trans (((cell_far (p := ⟨gb176, _, none⟩) (by first | exact Kd.own_blk (Kd.R_away HO_5.out (fun _ hk => by first | exact hk.1 | trivial)) | (rw [add_block]; exact Kd.own_blk (Kd.R_away HO_5.out (fun _ hk => by first | exact hk.1 | trivial))) | (show (Addr.add _ _).block ≠ _; rw [add_block]; exact Kd.own_blk (Kd.R_away HO_5.out (fun _ hk => by first | exact hk.1 | trivial))) | (dsimp only; exact Kd.own_blk (Kd.R_away HO_5.out (fun _ hk => by first | exact hk.1 | trivial)))) _).trans (((cell_far (p := ⟨gb176, _, none⟩) (by first | exact Kd.own_blk (Kd.R_away HO_5.out (fun _ hk => by first | exact hk.1 | trivial)) | (rw [add_block]; exact Kd.own_blk (Kd.R_away HO_5.out (fun _ hk => by first | exact hk.1 | trivial))) | (show (Addr.add _ _).block ≠ _; rw [add_block]; exact Kd.own_blk (Kd.R_away HO_5.out (fun _ hk => by first | exact hk.1 | trivial))) | (dsimp only; exact Kd.own_blk (Kd.R_away HO_5.out (fun _ hk => by first | exact hk.1 | trivial)))) _).trans (((cell_far (p := ⟨gb176, _, none⟩) (by first | exact Kd.own_blk (Kd.R_away HO_5.out (fun _ hk => by first | exact hk.1 | trivial)) | (rw [add_block]; exact Kd.own_blk (Kd.R_away HO_5.out (fun _ hk => by first | exact hk.1 | trivial))) | (show (Addr.add _ _).block ≠ _; rw [add_block]; exact Kd.own_blk (Kd.R_away HO_5.out (fun _ hk => by first | exact hk.1 | trivial))) | (dsimp only; exact Kd.own_blk (Kd.R_away HO_5.out (fun _ hk => by first | exact hk.1 | trivial)))) _).trans (hHeld.2.2.2.1)))))))), ((cell_far (p := ⟨gb176, _, none⟩) (by first | exact Kd.own_blk (Kd.R_away HO_5.out (fun _ hk => by first | exact hk.1 | trivial)) | (rw [add_block]; exact Kd.own_blk (Kd.R_away HO_5.out (fun _ hk => by first | exact hk.1 | trivial))) | (show (Addr.add _ _).block ≠ _; rw [add_block]; exact Kd.own_blk (Kd.R_away HO_5.out (fun _ hk => by first | exact hk.1 | trivial))) | (dsimp only; exact Kd.own_blk (Kd.R_away HO_5.out (fun _ hk => by first | exact hk.1 | trivial)))) _).trans (((cell_far (p := ⟨gb176, _, none⟩) (by first | exact Kd.own_blk (Kd.R_away HO_5.out (fun _ hk => by first | exact hk.1 | trivial)) | (rw [add_block]; exact Kd.own_blk (Kd.R_away HO_5.out (fun _ hk => by first | exact hk.1 | trivial))) | (show (Addr.add _ _).block ≠ _; rw [add_block]; exact Kd.own_blk (Kd.R_away HO_5.out (fun _ hk => by first | exact hk.1 | trivial))) | (dsimp only; exact Kd.own_blk (Kd.R_away HO_5.out (fun _ hk => by first | exact hk.1 | trivial)))) _).trans (((cell_far (p := ⟨gb176, _, none⟩) (by first | exact Kd.own_blk (Kd.R_away HO_5.out (fun _ hk => by first | exact hk.1 | trivial)) | (rw [add_block]; exact Kd.own_blk (Kd.R_away HO_5.out (fun _ hk => by first | exact hk.1 | trivial))) | (show (Addr.add _ _).block ≠ _; rw [add_block]; exact Kd.own_blk (Kd.R_away HO_5.out (fun _ hk => by first | exact hk.1 | trivial))) | (dsimp only; exact Kd.own_blk (Kd.R_away HO_5.out (fun _ hk => by first | exact hk.1 | trivial)))) _).trans (((cell_far (p := ⟨gb176, _, none⟩) (by first | exact Kd.own_blk (Kd.R_away HO_5.out (fun _ hk => by first | exact hk.1 | trivial)) | (rw [add_block]; exact Kd.own_blk (Kd.R_away HO_5.out (fun _ hk => by first | exact hk.1 | trivial))) | (show (Addr.add _ _).block ≠ _; rw [add_block]; exact Kd.own_blk (Kd.R_away HO_5.out (fun _ hk => by first | exact hk.1 | trivial))) | (dsimp only; exact Kd.own_blk (Kd.R_away HO_5.out (fun _ hk => by first | exact hk.1 | trivial)))) _).trans (hHeld.2.2.2.2.1)))))))), ((cell_far (p := ⟨gb176, _, none⟩) (by first | exact Kd.own_blk (Kd.R_away HO_5.out (fun _ hk => by first | exact hk.1 | trivial)) | (rw [add_block]; exact Kd.own_blk (Kd.R_away HO_5.out (fun _ hk => by first | exact hk.1 | trivial))) | (show (Addr.add _ _).block ≠ _; rw [add_block]; exact Kd.own_blk (Kd.R_away HO_5.out (fun _ hk => by first | exact hk.1 | trivial))) | (dsimp only; exact Kd.own_blk (Kd.R_away HO_5.out (fun _ hk => by first | exact hk.1 | trivial)))) _).trans (((cell_far (p := ⟨gb176, _, none⟩) (by first | exact Kd.own_blk (Kd.R_away HO_5.out (fun _ hk => by first | exact hk.1 | trivial)) | (rw [add_block]; exact Kd.own_blk (Kd.R_away HO_5.out (fun _ hk => by first | exact hk.1 | trivial))) | (show (Addr.add _ _).block ≠ _; rw [add_block]; exact Kd.own_blk (Kd.R_away HO_5.out (fun _ hk => by first | exact hk.1 | trivial))) | (dsimp only; exact Kd.own_blk (Kd.R_away HO_5.out (fun _ hk => by first | exact hk.1 | trivial)))) _).trans (((cell_far (p := ⟨gb176, _, none⟩) (by first | exact Kd.own_blk (Kd.R_away HO_5.out (fun _ hk => by first | exact hk.1 | trivial)) | (rw [add_block]; exact Kd.own_blk (Kd.R_away HO_5.out (fun _ hk => by first | exact hk.1 | trivial))) | (show (Addr.add _ _).block ≠ _; rw [add_block]; exact Kd.own_blk (Kd.R_away HO_5.out (fun _ hk => by first | exact hk.1 | trivial))) | (dsimp only; exact Kd.own_blk (Kd.R_away HO_5.out (fun _ hk => by first | exact hk.1 | trivial)))) _).trans (((cell_far (p := ⟨gb176, _, none⟩) (by first | exact Kd.own_blk (Kd.R_away HO_5.out (fun _ hk => by first | exact hk.1 | trivial)) | (rw [add_block]; exact Kd.own_blk (Kd.R_away HO_5.out (fun _ hk => by first | exact hk.1 | trivial))) | (show (Addr.add _ _).block ≠ _; rw [add_block]; exact Kd.own_blk (Kd.R_away HO_5.out (fun _ hk => by first | exact hk.1 | trivial))) | (dsimp only; exact Kd.own_blk (Kd.R_away HO_5.out (fun _ hk => by first | exact hk.1 | trivial)))) _).trans (hHeld.2.2.2.2.2.1)))))))), ((cell_far (p := ⟨gb176, _, none⟩) (by first | exact Kd.own_blk (Kd.R_away HO_5.out (fun _ hk => by first | exact hk.1 | trivial)) | (rw [add_block]; exact Kd.own_blk (Kd.R_away HO_5.out (fun _ hk => by first | exact hk.1 | trivial))) | (show (Addr.add _ _).block ≠ _; rw [add_block]; exact Kd.own_blk (Kd.R_away HO_5.out (fun _ hk => by first | exact hk.1 | trivial))) | (dsimp only; exact Kd.own_blk (Kd.R_away HO_5.out (fun _ hk => by first | exact hk.1 | trivial)))) _).trans (((cell_far (p := ⟨gb176, _, none⟩) (by first | exact Kd.own_blk (Kd.R_away HO_5.out (fun _ hk => by first | exact hk.1 | trivial)) | (rw [add_block]; exact Kd.own_blk (Kd.R_away HO_5.out (fun _ hk => by first | exact hk.1 | trivial))) | (show (Addr.add _ _).block ≠ _; rw [add_block]; exact Kd.own_blk (Kd.R_away HO_5.out (fun _ hk => by first | exact hk.1 | trivial))) | (dsimp only; exact Kd.own_blk (Kd.R_away HO_5.out (fun _ hk => by first | exact hk.1 | trivial)))) _).trans (((cell_far (p := ⟨gb176, _, none⟩) (by first | exact Kd.own_blk (Kd.R_away HO_5.out (fun _ hk => by first | exact hk.1 | trivial)) | (rw [add_block]; exact Kd.own_blk (Kd.R_away HO_5.out (fun _ hk => by first | exact hk.1 | trivial))) | (show (Addr.add _ _).block ≠ _; rw [add_block]; exact Kd.own_blk (Kd.R_away HO_5.out (fun _ hk => by first | exact hk.1 | trivial))) | (dsimp only; exact Kd.own_blk (Kd.R_away HO_5.out (fun _ hk => by first | exact hk.1 | trivial)))) _).trans (((cell_far (p := ⟨gb176, _, none⟩) (by first | exact Kd.own_blk (Kd.R_away HO_5.out (fun _ hk => by first | exact hk.1 | trivial)) | (rw [add_block]; exact Kd.own_blk (Kd.R_away HO_5.out (fun _ hk => by first | exact hk.1 | trivial))) | (show (Addr.add _ _).block ≠ _; rw [add_block]; exact Kd.own_blk (Kd.R_away HO_5.out (fun _ hk => by first | exact hk.1 | trivial))) | (dsimp only; exact Kd.own_blk (Kd.R_away HO_5.out (fun _ hk => by first | exact hk.1 | trivial)))) _).trans (hHeld.2.2.2.2.2.2.1)))))))), ((cell_far (p := ⟨gb176, _, none⟩) (by first | exact Kd.own_blk (Kd.R_away HO_5.out (fun _ hk => by first | exact hk.1 | trivial)) | (rw [add_block]; exact Kd.own_blk (Kd.R_away HO_5.out (fun _ hk => by first | exact hk.1 | trivial))) | (show (Addr.add _ _).block ≠ _; rw [add_block]; exact Kd.own_blk (Kd.R_away HO_5.out (fun _ hk => by first | exact hk.1 | trivial))) | (dsimp only; exact Kd.own_blk (Kd.R_away HO_5.out (fun _ hk => by first | exact hk.1 | trivial)))) _).trans (((cell_far (p := ⟨gb176, _, none⟩) (by first | exact Kd.own_blk (Kd.R_away HO_5.out (fun _ hk => by first | exact hk.1 | trivial)) | (rw [add_block]; exact Kd.own_blk (Kd.R_away HO_5.out (fun _ hk => by first | exact hk.1 | trivial))) | (show (Addr.add _ _).block ≠ _; rw [add_block]; exact Kd.own_blk (Kd.R_away HO_5.out (fun _ hk => by first | exact hk.1 | trivial))) | (dsimp only; exact Kd.own_blk (Kd.R_away HO_5.out (fun _ hk => by first | exact hk.1 | trivial)))) _).trans (((cell_far (p := ⟨gb176, _, none⟩) (by first | exact Kd.own_blk (Kd.R_away HO_5.out (fun _ hk => by first | exact hk.1 | trivial)) | (rw [add_block]; exact Kd.own_blk (Kd.R_away HO_5.out (fun _ hk => by first | exact hk.1 | trivial))) | (show (Addr.add _ _).block ≠ _; rw [add_block]; exact Kd.own_blk (Kd.R_away HO_5.out (fun _ hk => by first | exact hk.1 | trivial))) | (dsimp only; exact Kd.own_blk (Kd.R_away HO_5.out (fun _ hk => by first | exact hk.1 | trivial)))) _).trans (((cell_far (p := ⟨gb176, _, none⟩) (by first | exact Kd.own_blk (Kd.R_away HO_5.out (fun _ hk => by first | exact hk.1 | trivial)) | (rw [add_block]; exact Kd.own_blk (Kd.R_away HO_5.out (fun _ hk => by first | exact hk.1 | trivial))) | (show (Addr.add _ _).block ≠ _; rw [add_block]; exact Kd.own_blk (Kd.R_away HO_5.out (fun _ hk => by first | exact hk.1 | trivial))) | (dsimp only; exact Kd.own_blk (Kd.R_away HO_5.out (fun _ hk => by first | exact hk.1 | trivial)))) _).trans (hHeld.2.2.2.2.2.2.2.1)))))))), ((cell_far (p := ⟨gb176, _, none⟩) (by first | exact Kd.own_blk (Kd.R_away HO_5.out (fun _ hk => by first | exact hk.1 | trivial)) | (rw [add_block]; exact Kd.own_blk (Kd.R_away HO_5.out (fun _ hk => by first | exact hk.1 | trivial))) | (show (Addr.add _ _).block ≠ _; rw [add_block]; exact Kd.own_blk (Kd.R_away HO_5.out (fun _ hk => by first | exact hk.1 | trivial))) | (dsimp only; exact Kd.own_blk (Kd.R_away HO_5.out (fun _ hk => by first | exact hk.1 | trivial)))) _).trans (((cell_far (p := ⟨gb176, _, none⟩) (by first | exact Kd.own_blk (Kd.R_away HO_5.out (fun _ hk => by first | exact hk.1 | trivial)) | (rw [add_block]; exact Kd.own_blk (Kd.R_away HO_5.out (fun _ hk => by first | exact hk.1 | trivial))) | (show (Addr.add _ _).block ≠ _; rw [add_block]; exact Kd.own_blk (Kd.R_away HO_5.out (fun _ hk => by first | exact hk.1 | trivial))) | (dsimp only; exact Kd.own_blk (Kd.R_away HO_5.out (fun _ hk => by first | exact hk.1 | trivial)))) _).trans (((cell_far (p := ⟨gb176, _, none⟩) (by first | exact Kd.own_blk (Kd.R_away HO_5.out (fun _ hk => by first | exact hk.1 | trivial)) | (rw [add_block]; exact Kd.own_blk (Kd.R_away HO_5.out (fun _ hk => by first | exact hk.1 | trivial))) | (show (Addr.add _ _).block ≠ _; rw [add_block]; exact Kd.own_blk (Kd.R_away HO_5.out (fun _ hk => by first | exact hk.1 | trivial))) | (dsimp only; exact Kd.own_blk (Kd.R_away HO_5.out (fun _ hk => by first | exact hk.1 | trivial)))) _).trans (((cell_far (p := ⟨gb176, _, none⟩) (by first | exact Kd.own_blk (Kd.R_away HO_5.out (fun _ hk => by first | exact hk.1 | trivial)) | (rw [add_block]; exact Kd.own_blk (Kd.R_away HO_5.out (fun _ hk => by first | exact hk.1 | trivial))) | (show (Addr.add _ _).block ≠ _; rw [add_block]; exact Kd.own_blk (Kd.R_away HO_5.out (fun _ hk => by first | exact hk.1 | trivial))) | (dsimp only; exact Kd.own_blk (Kd.R_away HO_5.out (fun _ hk => by first | exact hk.1 | trivial)))) _).trans (hHeld.2.2.2.2.2.2.2.2.1)))))))), ((cell_far (p := ⟨gb176, _, none⟩) (by first | exact Kd.own_blk (Kd.R_away HO_5.out (fun _ hk => by first | exact hk.1 | trivial)) | (rw [add_block]; exact Kd.own_blk (Kd.R_away HO_5.out (fun _ hk => by first | exact hk.1 | trivial))) | (show (Addr.add _ _).block ≠ _; rw [add_block]; exact Kd.own_blk (Kd.R_away HO_5.out (fun _ hk => by first | exact hk.1 | trivial))) | (dsimp only; exact Kd.own_blk (Kd.R_away HO_5.out (fun _ hk => by first | exact hk.1 | trivial)))) _).trans (((cell_far (p := ⟨gb176, _, none⟩) (by first | exact Kd.own_blk (Kd.R_away HO_5.out (fun _ hk => by first | exact hk.1 | trivial)) | (rw [add_block]; exact Kd.own_blk (Kd.R_away HO_5.out (fun _ hk => by first | exact hk.1 | trivial))) | (show (Addr.add _ _).block ≠ _; rw [add_block]; exact Kd.own_blk (Kd.R_away HO_5.out (fun _ hk => by first | exact hk.1 | trivial))) | (dsimp only; exact Kd.own_blk (Kd.R_away HO_5.out (fun _ hk => by first | exact hk.1 | trivial)))) _).trans (((cell_far (p := ⟨gb176, _, none⟩) (by first | exact Kd.own_blk (Kd.R_away HO_5.out (fun _ hk => by first | exact hk.1 | trivial)) | (rw [add_block]; exact Kd.own_blk (Kd.R_away HO_5.out (fun _ hk => by first | exact hk.1 | trivial))) | (show (Addr.add _ _).block ≠ _; rw [add_block]; exact Kd.own_blk (Kd.R_away HO_5.out (fun _ hk => by first | exact hk.1 | trivial))) | (dsimp only; exact Kd.own_blk (Kd.R_away HO_5.out (fun _ hk => by first | exact hk.1 | trivial)))) _).trans (((cell_far (p := ⟨gb176, _, none⟩) (by first | exact Kd.own_blk (Kd.R_away HO_5.out (fun _ hk => by first | exact hk.1 | trivial)) | (rw [add_block]; exact Kd.own_blk (Kd.R_away HO_5.out (fun _ hk => by first | exact hk.1 | trivial))) | (show (Addr.add _ _).block ≠ _; rw [add_block]; exact Kd.own_blk (Kd.R_away HO_5.out (fun _ hk => by first | exact hk.1 | trivial))) | (dsimp only; exact Kd.own_blk (Kd.R_away HO_5.out (fun _ hk => by first | exact hk.1 | trivial)))) _).trans (hHeld.2.2.2.2.2.2.2.2.2))))))))⟩ (fun hHeld => ?_)
                          clear hK K
                          refine one_ (i := 17) (N := none) #[true, true, true, true, true, true, true, true, true, true, true, true, true, true, true, true, true, true] rfl rfl (one_of HT_.out (by kernel_rfl)) (by decide) (fun K hK => ?_)
                          have hs47 : w42.cell? ⟨gb177, 0, none⟩ = some (.bool false) := (blk_cell BK177.out 0).trans rfl
                          have hfs47 := blk_frozen BK177.out 0
                          have hns47_0 := NB155_177.out
                          have hns47_1 := NB165_177.out
                          have hns47_2 := NB176_177.out
                          have hms47_0 := NB177_155.out
                          have hms47_1 := NB177_165.out
                          have hms47_2 := NB177_176.out
                          have hs48 : w42.cell? ⟨gb177, 1, none⟩ = some (.int .i64 0) := (blk_cell BK177.out 1).trans rfl
                          have hfs48 := blk_frozen BK177.out 1
                          have hns48_0 := NB155_177.out
                          have hns48_1 := NB165_177.out
                          have hns48_2 := NB176_177.out
                          have hms48_0 := NB177_155.out
                          have hms48_1 := NB177_165.out
                          have hms48_2 := NB177_176.out
                          have hs49 : w42.cell? ⟨gb177, 2, none⟩ = some (.int .i64 0) := (blk_cell BK177.out 2).trans rfl
                          have hfs49 := blk_frozen BK177.out 2
                          have hns49_0 := NB155_177.out
                          have hns49_1 := NB165_177.out
                          have hns49_2 := NB176_177.out
                          have hms49_0 := NB177_155.out
                          have hms49_1 := NB177_165.out
                          have hms49_2 := NB177_176.out
                          have hs50 : w42.cell? ⟨gb177, 3, none⟩ = some (.string (⟨#[]⟩ : ByteArray)) := (blk_cell BK177.out 3).trans rfl
                          have hfs50 := blk_frozen BK177.out 3
                          have hns50_0 := NB155_177.out
                          have hns50_1 := NB165_177.out
                          have hns50_2 := NB176_177.out
                          have hms50_0 := NB177_155.out
                          have hms50_1 := NB177_165.out
                          have hms50_2 := NB177_176.out
                          refine skip_ (w1 := ?_) (by rfl) rfl ?_ ?_
                          rotate_left
                          · go_simp
                            rfl
                          refine hK.out _ _ ⟨((cell_far (p := ⟨gb177, _, none⟩) NB165_177.out _).trans (((cell_far (p := ⟨gb177, _, none⟩) NB165_177.out _).trans (((cell_far (p := ⟨gb177, _, none⟩) NB165_177.out _).trans (((cell_far (p := ⟨gb177, _, none⟩) NB165_177.out _).trans (hHeld.1)))))))), ((cell_far (p := ⟨gb177, _, none⟩) NB165_177.out _).trans (((cell_far (p := ⟨gb177, _, none⟩) NB165_177.out _).trans (((cell_far (p := ⟨gb177, _, none⟩) NB165_177.out _).trans (((cell_far (p := ⟨gb177, _, none⟩) NB165_177.out _).trans (hHeld.2.1)))))))), ((cell_far (p := ⟨gb177, _, none⟩) (by first | exact Kd.own_blk (Kd.R_away HO_5.out (fun _ hk => by first | exact hk.2 | trivial)) | (rw [add_block]; exact Kd.own_blk (Kd.R_away HO_5.out (fun _ hk => by first | exact hk.2 | trivial))) | (show (Addr.add _ _).block ≠ _; rw [add_block]; exact Kd.own_blk (Kd.R_away HO_5.out (fun _ hk => by first | exact hk.2 | trivial))) | (dsimp only; exact Kd.own_blk (Kd.R_away HO_5.out (fun _ hk => by first | exact hk.2 | trivial)))) _).trans (((cell_far (p := ⟨gb177, _, none⟩) (by first | exact Kd.own_blk (Kd.R_away HO_5.out (fun _ hk => by first | exact hk.2 | trivial)) | (rw [add_block]; exact Kd.own_blk (Kd.R_away HO_5.out (fun _ hk => by first | exact hk.2 | trivial))) | (show (Addr.add _ _).block ≠ _; rw [add_block]; exact Kd.own_blk (Kd.R_away HO_5.out (fun _ hk => by first | exact hk.2 | trivial))) | (dsimp only; exact Kd.own_blk (Kd.R_away HO_5.out (fun _ hk => by first | exact hk.2 | trivial)))) _).trans (((cell_far (p := ⟨gb177, _, none⟩) (by first | exact Kd.own_blk (Kd.R_away HO_5.out (fun _ hk => by first | exact hk.2 | trivial)) | (rw [add_block]; exact Kd.own_blk (Kd.R_away HO_5.out (fun _ hk => by first | exact hk.2 | trivial))) | (show (Addr.add _ _).block ≠ _; rw [add_block]; exact Kd.own_blk (Kd.R_away HO_5.out (fun _ hk => by first | exact hk.2 | trivial))) | (dsimp only; exact Kd.own_blk (Kd.R_away HO_5.out (fun _ hk => by first | exact hk.2 | trivial)))) _).trans (((cell_far (p := ⟨gb177, _, none⟩) (by first | exact Kd.own_blk (Kd.R_away HO_5.out (fun _ hk => by first | exact hk.2 | trivial)) | (rw [add_block]; exact Kd.own_blk (Kd.R_away HO_5.out (fun _ hk => by first | exact hk.2 | trivial))) | (show (Addr.add _ _).block ≠ _; rw [add_block]; exact Kd.own_blk (Kd.R_away HO_5.out (fun _ hk => by first | exact hk.2 | trivial))) | (dsimp only; exact Kd.own_blk (Kd.R_away HO_5.out (fun _ hk => by first | exact hk.2 | trivial)))) _).trans (hHeld.2.2.1)))))))), ((cell_far (p := ⟨gb177, _, none⟩) (by first | exact Kd.own_blk (Kd.R_away HO_5.out (fun _ hk => by first | exact hk.2 | trivial)) | (rw [add_block]; exact Kd.own_blk (Kd.R_away HO_5.out (fun _ hk => by first | exact hk.2 | trivial))) | (show (Addr.add _ _).block ≠ _; rw [add_block]; exact Kd.own_blk (Kd.R_away HO_5.out (fun _ hk => by first | exact hk.2 | trivial))) | (dsimp only; exact Kd.own_blk (Kd.R_away HO_5.out (fun _ hk => by first | exact hk.2 | trivial)))) _).trans (((cell_far (p := ⟨gb177, _, none⟩) (by first | exact Kd.own_blk (Kd.R_away HO_5.out (fun _ hk => by first | exact hk.2 | trivial)) | (rw [add_block]; exact Kd.own_blk (Kd.R_away HO_5.out (fun _ hk => by first | exact hk.2 | trivial))) | (show (Addr.add _ _).block ≠ _; rw [add_block]; exact Kd.own_blk (Kd.R_away HO_5.out (fun _ hk => by first | exact hk.2 | trivial))) | (dsimp only; exact Kd.own_blk (Kd.R_away HO_5.out (fun _ hk => by first | exact hk.2 | trivial)))) _).trans (((cell_far (p := ⟨gb177, _, none⟩) (by first | exact Kd.own_blk (Kd.R_away HO_5.out (fun _ hk => by first | exact hk.2 | trivial)) | (rw [add_block]; exact Kd.own_blk (Kd.R_away HO_5.out (fun _ hk => by first | exact hk.2 | trivial))) | (show (Addr.add _ _).block ≠ _; rw [add_block]; exact Kd.own_blk (Kd.R_away HO_5.out (fun _ hk => by first | exact hk.2 | trivial))) | (dsimp only; exact Kd.own_blk (Kd.R_away HO_5.out (fun _ hk => by first | exact hk.2 | trivial)))) _).trans (((cell_far (p := ⟨gb177, _, none⟩) (by first | exact Kd.own_blk (Kd.R_away HO_5.out (fun _ hk => by first | exact hk.2 | trivial)) | (rw [add_block]; exact Kd.own_blk (Kd.R_away HO_5.out (fun _ hk => by first | exact hk.2 | trivial))) | (show (Addr.add _ _).block ≠ _; rw [add_block]; exact Kd.own_blk (Kd.R_away HO_5.out (fun _ hk => by first | exact hk.2 | trivial))) | (dsimp only; exact Kd.own_blk (Kd.R_away HO_5.out (fun _ hk => by first | exact hk.2 | trivial)))) _).trans (hHeld.2.2.2.1)))))))), ((cell_far (p := ⟨gb177, _, none⟩) (by first | exact Kd.own_blk (Kd.R_away HO_5.out (fun _ hk => by first | exact hk.2 | trivial)) | (rw [add_block]; exact Kd.own_blk (Kd.R_away HO_5.out (fun _ hk => by first | exact hk.2 | trivial))) | (show (Addr.add _ _).block ≠ _; rw [add_block]; exact Kd.own_blk (Kd.R_away HO_5.out (fun _ hk => by first | exact hk.2 | trivial))) | (dsimp only; exact Kd.own_blk (Kd.R_away HO_5.out (fun _ hk => by first | exact hk.2 | trivial)))) _).trans (((cell_far (p := ⟨gb177, _, none⟩) (by first | exact Kd.own_blk (Kd.R_away HO_5.out (fun _ hk => by first | exact hk.2 | trivial)) | (rw [add_block]; exact Kd.own_blk (Kd.R_away HO_5.out (fun _ hk => by first | exact hk.2 | trivial))) | (show (Addr.add _ _).block ≠ _; rw [add_block]; exact Kd.own_blk (Kd.R_away HO_5.out (fun _ hk => by first | exact hk.2 | trivial))) | (dsimp only; exact Kd.own_blk (Kd.R_away HO_5.out (fun _ hk => by first | exact hk.2 | trivial)))) _).trans (((cell_far (p := ⟨gb177, _, none⟩) (by first | exact Kd.own_blk (Kd.R_away HO_5.out (fun _ hk => by first | exact hk.2 | trivial)) | (rw [add_block]; exact Kd.own_blk (Kd.R_away HO_5.out (fun _ hk => by first | exact hk.2 | trivial))) | (show (Addr.add _ _).block ≠ _; rw [add_block]; exact Kd.own_blk (Kd.R_away HO_5.out (fun _ hk => by first | exact hk.2 | trivial))) | (dsimp only; exact Kd.own_blk (Kd.R_away HO_5.out (fun _ hk => by first | exact hk.2 | trivial)))) _).trans (((cell_far (p := ⟨gb177, _, none⟩) (by first | exact Kd.own_blk (Kd.R_away HO_5.out (fun _ hk => by first | exact hk.2 | trivial)) | (rw [add_block]; exact Kd.own_blk (Kd.R_away HO_5.out (fun _ hk => by first | exact hk.2 | trivial))) | (show (Addr.add _ _).block ≠ _; rw [add_block]; exact Kd.own_blk (Kd.R_away HO_5.out (fun _ hk => by first | exact hk.2 | trivial))) | (dsimp only; exact Kd.own_blk (Kd.R_away HO_5.out (fun _ hk => by first | exact hk.2 | trivial)))) _).trans (hHeld.2.2.2.2.1)))))))), ((cell_far (p := ⟨gb177, _, none⟩) (by first | exact Kd.own_blk (Kd.R_away HO_5.out (fun _ hk => by first | exact hk.2 | trivial)) | (rw [add_block]; exact Kd.own_blk (Kd.R_away HO_5.out (fun _ hk => by first | exact hk.2 | trivial))) | (show (Addr.add _ _).block ≠ _; rw [add_block]; exact Kd.own_blk (Kd.R_away HO_5.out (fun _ hk => by first | exact hk.2 | trivial))) | (dsimp only; exact Kd.own_blk (Kd.R_away HO_5.out (fun _ hk => by first | exact hk.2 | trivial)))) _).trans (((cell_far (p := ⟨gb177, _, none⟩) (by first | exact Kd.own_blk (Kd.R_away HO_5.out (fun _ hk => by first | exact hk.2 | trivial)) | (rw [add_block]; exact Kd.own_blk (Kd.R_away HO_5.out (fun _ hk => by first | exact hk.2 | trivial))) | (show (Addr.add _ _).block ≠ _; rw [add_block]; exact Kd.own_blk (Kd.R_away HO_5.out (fun _ hk => by first | exact hk.2 | trivial))) | (dsimp only; exact Kd.own_blk (Kd.R_away HO_5.out (fun _ hk => by first | exact hk.2 | trivial)))) _).trans (((cell_far (p := ⟨gb177, _, none⟩) (by first | exact Kd.own_blk (Kd.R_away HO_5.out (fun _ hk => by first | exact hk.2 | trivial)) | (rw [add_block]; exact Kd.own_blk (Kd.R_away HO_5.out (fun _ hk => by first | exact hk.2 | trivial))) | (show (Addr.add _ _).block ≠ _; rw [add_block]; exact Kd.own_blk (Kd.R_away HO_5.out (fun _ hk => by first | exact hk.2 | trivial))) | (dsimp only; exact Kd.own_blk (Kd.R_away HO_5.out (fun _ hk => by first | exact hk.2 | trivial)))) _).trans (((cell_far (p := ⟨gb177, _, none⟩) (by first | exact Kd.own_blk (Kd.R_away HO_5.out (fun _ hk => by first | exact hk.2 | trivial)) | (rw [add_block]; exact Kd.own_blk (Kd.R_away HO_5.out (fun _ hk => by first | exact hk.2 | trivial))) | (show (Addr.add _ _).block ≠ _; rw [add_block]; exact Kd.own_blk (Kd.R_away HO_5.out (fun _ hk => by first | exact hk.2 | trivial))) | (dsimp only; exact Kd.own_blk (Kd.R_away HO_5.out (fun _ hk => by first | exact hk.2 | trivial)))) _).trans (hHeld.2.2.2.2.2.1)))))))), ((cell_far (p := ⟨gb177, _, none⟩) (by first | exact Kd.own_blk (Kd.R_away HO_5.out (fun _ hk => by first | exact hk.2 | trivial)) | (rw [add_block]; exact Kd.own_blk (Kd.R_away HO_5.out (fun _ hk => by first | exact hk.2 | trivial))) | (show (Addr.add _ _).block ≠ _; rw [add_block]; exact Kd.own_blk (Kd.R_away HO_5.out (fun _ hk => by first | exact hk.2 | trivial))) | (dsimp only; exact Kd.own_blk (Kd.R_away HO_5.out (fun _ hk => by first | exact hk.2 | trivial)))) _).trans (((cell_far (p := ⟨gb177, _, none⟩) (by first | exact Kd.own_blk (Kd.R_away HO_5.out (fun _ hk => by first | exact hk.2 | trivial)) | (rw [add_block]; exact Kd.own_blk (Kd.R_away HO_5.out (fun _ hk => by first | exact hk.2 | trivial))) | (show (Addr.add _ _).block ≠ _; rw [add_block]; exact Kd.own_blk (Kd.R_away HO_5.out (fun _ hk => by first | exact hk.2 | trivial))) | (dsimp only; exact Kd.own_blk (Kd.R_away HO_5.out (fun _ hk => by first | exact hk.2 | trivial)))) _).trans (((cell_far (p := ⟨gb177, _, none⟩) (by first | exact Kd.own_blk (Kd.R_away HO_5.out (fun _ hk => by first | exact hk.2 | trivial)) | (rw [add_block]; exact Kd.own_blk (Kd.R_away HO_5.out (fun _ hk => by first | exact hk.2 | trivial))) | (show (Addr.add _ _).block ≠ _; rw [add_block]; exact Kd.own_blk (Kd.R_away HO_5.out (fun _ hk => by first | exact hk.2 | trivial))) | (dsimp only; exact Kd.own_blk (Kd.R_away HO_5.out (fun _ hk => by first | exact hk.2 | trivial)))) _).trans (((cell_far (p := ⟨gb177, _, none⟩) (by first | exact Kd.own_blk (Kd.R_away HO_5.out (fun _ hk => by first | exact hk.2 | trivial)) | (rw [add_block]; exact Kd.own_blk (Kd.R_away HO_5.out (fun _ hk => by first | exact hk.2 | trivial))) | (show (Addr.add _ _).block ≠ _; rw [add_block]; exact Kd.own_blk (Kd.R_away HO_5.out (fun _ hk => by first | exact hk.2 | trivial))) | (dsimp only; exact Kd.own_blk (Kd.R_away HO_5.out (fun _ hk => by first | exact hk.2 | trivial)))) _).trans (hHeld.2.2.2.2.2.2.1)))))))), ((cell_far (p := ⟨gb177, _, none⟩) (by first | exact Kd.own_blk (Kd.R_away HO_5.out (fun _ hk => by first | exact hk.2 | trivial)) | (rw [add_block]; exact Kd.own_blk (Kd.R_away HO_5.out (fun _ hk => by first | exact hk.2 | trivial))) | (show (Addr.add _ _).block ≠ _; rw [add_block]; exact Kd.own_blk (Kd.R_away HO_5.out (fun _ hk => by first | exact hk.2 | trivial))) | (dsimp only; exact Kd.own_blk (Kd.R_away HO_5.out (fun _ hk => by first | exact hk.2 | trivial)))) _).trans (((cell_far (p := ⟨gb177, _, none⟩) (by first | exact Kd.own_blk (Kd.R_away HO_5.out (fun _ hk => by first | exact hk.2 | trivial)) | (rw [add_block]; exact Kd.own_blk (Kd.R_away HO_5.out (fun _ hk => by first | exact hk.2 | trivial))) | (show (Addr.add _ _).block ≠ _; rw [add_block]; exact Kd.own_blk (Kd.R_away HO_5.out (fun _ hk => by first | exact hk.2 | trivial))) | (dsimp only; exact Kd.own_blk (Kd.R_away HO_5.out (fun _ hk => by first | exact hk.2 | trivial)))) _).trans (((cell_far (p := ⟨gb177, _, none⟩) (by first | exact Kd.own_blk (Kd.R_away HO_5.out (fun _ hk => by first | exact hk.2 | trivial)) | (rw [add_block]; exact Kd.own_blk (Kd.R_away HO_5.out (fun _ hk => by first | exact hk.2 | trivial))) | (show (Addr.add _ _).block ≠ _; rw [add_block]; exact Kd.own_blk (Kd.R_away HO_5.out (fun _ hk => by first | exact hk.2 | trivial))) | (dsimp only; exact Kd.own_blk (Kd.R_away HO_5.out (fun _ hk => by first | exact hk.2 | trivial)))) _).trans (((cell_far (p := ⟨gb177, _, none⟩) (by first | exact Kd.own_blk (Kd.R_away HO_5.out (fun _ hk => by first | exact hk.2 | trivial)) | (rw [add_block]; exact Kd.own_blk (Kd.R_away HO_5.out (fun _ hk => by first | exact hk.2 | trivial))) | (show (Addr.add _ _).block ≠ _; rw [add_block]; exact Kd.own_blk (Kd.R_away HO_5.out (fun _ hk => by first | exact hk.2 | trivial))) | (dsimp only; exact Kd.own_blk (Kd.R_away HO_5.out (fun _ hk => by first | exact hk.2 | trivial)))) _).trans (hHeld.2.2.2.2.2.2.2.1)))))))), ((cell_far (p := ⟨gb177, _, none⟩) (by first | exact Kd.own_blk (Kd.R_away HO_5.out (fun _ hk => by first | exact hk.2 | trivial)) | (rw [add_block]; exact Kd.own_blk (Kd.R_away HO_5.out (fun _ hk => by first | exact hk.2 | trivial))) | (show (Addr.add _ _).block ≠ _; rw [add_block]; exact Kd.own_blk (Kd.R_away HO_5.out (fun _ hk => by first | exact hk.2 | trivial))) | (dsimp only; exact Kd.own_blk (Kd.R_away HO_5.out (fun _ hk => by first | exact hk.2 | trivial)))) _).trans (((cell_far (p := ⟨gb177, _, none⟩) (by first | exact Kd.own_blk (Kd.R_away HO_5.out (fun _ hk => by first | exact hk.2 | trivial)) | (rw [add_block]; exact Kd.own_blk (Kd.R_away HO_5.out (fun _ hk => by first | exact hk.2 | trivial))) | (show (Addr.add _ _).block ≠ _; rw [add_block]; exact Kd.own_blk (Kd.R_away HO_5.out (fun _ hk => by first | exact hk.2 | trivial))) | (dsimp only; exact Kd.own_blk (Kd.R_away HO_5.out (fun _ hk => by first | exact hk.2 | trivial)))) _).trans (((cell_far (p := ⟨gb177, _, none⟩) (by first | exact Kd.own_blk (Kd.R_away HO_5.out (fun _ hk => by first | exact hk.2 | trivial)) | (rw [add_block]; exact Kd.own_blk (Kd.R_away HO_5.out (fun _ hk => by first | exact hk.2 | trivial))) | (show (Addr.add _ _).block ≠ _; rw [add_block]; exact Kd.own_blk (Kd.R_away HO_5.out (fun _ hk => by first | exact hk.2 | trivial))) | (dsimp only; exact Kd.own_blk (Kd.R_away HO_5.out (fun _ hk => by first | exact hk.2 | trivial)))) _).trans (((cell_far (p := ⟨gb177, _, none⟩) (by first | exact Kd.own_blk (Kd.R_away HO_5.out (fun _ hk => by first | exact hk.2 | trivial)) | (rw [add_block]; exact Kd.own_blk (Kd.R_away HO_5.out (fun _ hk => by first | exact hk.2 | trivial))) | (show (Addr.add _ _).block ≠ _; rw [add_block]; exact Kd.own_blk (Kd.R_away HO_5.out (fun _ hk => by first | exact hk.2 | trivial))) | (dsimp only; exact Kd.own_blk (Kd.R_away HO_5.out (fun _ hk => by first | exact hk.2 | trivial)))) _).trans (hHeld.2.2.2.2.2.2.2.2.1)))))))), ((cell_far (p := ⟨gb177, _, none⟩) (by first | exact Kd.own_blk (Kd.R_away HO_5.out (fun _ hk => by first | exact hk.2 | trivial)) | (rw [add_block]; exact Kd.own_blk (Kd.R_away HO_5.out (fun _ hk => by first | exact hk.2 | trivial))) | (show (Addr.add _ _).block ≠ _; rw [add_block]; exact Kd.own_blk (Kd.R_away HO_5.out (fun _ hk => by first | exact hk.2 | trivial))) | (dsimp only; exact Kd.own_blk (Kd.R_away HO_5.out (fun _ hk => by first | exact hk.2 | trivial)))) _).trans (((cell_far (p := ⟨gb177, _, none⟩) (by first | exact Kd.own_blk (Kd.R_away HO_5.out (fun _ hk => by first | exact hk.2 | trivial)) | (rw [add_block]; exact Kd.own_blk (Kd.R_away HO_5.out (fun _ hk => by first | exact hk.2 | trivial))) | (show (Addr.add _ _).block ≠ _; rw [add_block]; exact Kd.own_blk (Kd.R_away HO_5.out (fun _ hk => by first | exact hk.2 | trivial))) | (dsimp only; exact Kd.own_blk (Kd.R_away HO_5.out (fun _ hk => by first | exact hk.2 | trivial)))) _).trans (((cell_far (p := ⟨gb177, _, none⟩) (by first | exact Kd.own_blk (Kd.R_away HO_5.out (fun _ hk => by first | exact hk.2 | trivial)) | (rw [add_block]; exact Kd.own_blk (Kd.R_away HO_5.out (fun _ hk => by first | exact hk.2 | trivial))) | (show (Addr.add _ _).block ≠ _; rw [add_block]; exact Kd.own_blk (Kd.R_away HO_5.out (fun _ hk => by first | exact hk.2 | trivial))) | (dsimp only; exact Kd.own_blk (Kd.R_away HO_5.out (fun _ hk => by first | exact hk.2 | trivial)))) _).trans (((cell_far (p := ⟨gb177, _, none⟩) (by first | exact Kd.own_blk (Kd.R_away HO_5.out (fun _ hk => by first | exact hk.2 | trivial)) | (rw [add_block]; exact Kd.own_blk (Kd.R_away HO_5.out (fun _ hk => by first | exact hk.2 | trivial))) | (show (Addr.add _ _).block ≠ _; rw [add_block]; exact Kd.own_blk (Kd.R_away HO_5.out (fun _ hk => by first | exact hk.2 | trivial))) | (dsimp only; exact Kd.own_blk (Kd.R_away HO_5.out (fun _ hk => by first | exact hk.2 | trivial)))) _).trans (hHeld.2.2.2.2.2.2.2.2.2))))))))⟩ (fun hHeld => ?_)
                          clear hK K
                          refine done_ (done_of HT_.out (by kernel_rfl)) ?_
                          have n0_ : Aside0 (Kd.R k26 26 ((((((((w42.setCell ⟨gb176, 0, none⟩ (.bool t168)).setCell ⟨gb176, 1, none⟩ (.int .i64 t169)).setCell ⟨gb176, 2, none⟩ (.int .i64 t170)).setCell ⟨gb176, 3, none⟩ (.string t171)).setCell ⟨gb177, 0, none⟩ (.bool t172)).setCell ⟨gb177, 1, none⟩ (.int .i64 t173)).setCell ⟨gb177, 2, none⟩ (.int .i64 t174)).setCell ⟨gb177, 3, none⟩ (.string t175)) w.heap.size (fun k_ => k_ ≠ gb176 ∧ k_ ≠ gb177) (.slice (some ad166) x5_2.length co38) x5_2) := ⟨by (with_reducible repeat (first | apply Kd.R_alloc | apply Kd.R_drewN | apply Kd.R_drew)); exact Kd.R_mono (Kd.R_far (p := ⟨gb177, 3, none⟩) (Kd.R_far (p := ⟨gb177, 2, none⟩) (Kd.R_far (p := ⟨gb177, 1, none⟩) (Kd.R_far (p := ⟨gb177, 0, none⟩) (Kd.R_far (p := ⟨gb176, 3, none⟩) (Kd.R_far (p := ⟨gb176, 2, none⟩) (Kd.R_far (p := ⟨gb176, 1, none⟩) (Kd.R_far (p := ⟨gb176, 0, none⟩) (Kd.R_mono (Kd.R_mono HO_5.out (fun k_ hk => (⟨hk, hk.1⟩ : _ ∧ k_ ≠ gb176))) (fun k_ hk => (⟨hk, hk.1.2⟩ : _ ∧ k_ ≠ gb177))) (fun _ hk => by first | exact hk.1.2 | trivial) (.bool t168)) (fun _ hk => by first | exact hk.1.2 | trivial) (.int .i64 t169)) (fun _ hk => by first | exact hk.1.2 | trivial) (.int .i64 t170)) (fun _ hk => by first | exact hk.1.2 | trivial) (.string t171)) (fun _ hk => by first | exact hk.2 | trivial) (.bool t172)) (fun _ hk => by first | exact hk.2 | trivial) (.int .i64 t173)) (fun _ hk => by first | exact hk.2 | trivial) (.int .i64 t174)) (fun _ hk => by first | exact hk.2 | trivial) (.string t175)) (fun _ hk => ⟨hk.1.1.1, hk.1.1.2⟩)⟩
                          have n1_ : Aside0 (((((((((w42.setCell ⟨gb176, 0, none⟩ (.bool t168)).setCell ⟨gb176, 1, none⟩ (.int .i64 t169)).setCell ⟨gb176, 2, none⟩ (.int .i64 t170)).setCell ⟨gb176, 3, none⟩ (.string t171)).setCell ⟨gb177, 0, none⟩ (.bool t172)).setCell ⟨gb177, 1, none⟩ (.int .i64 t173)).setCell ⟨gb177, 2, none⟩ (.int .i64 t174)).setCell ⟨gb177, 3, none⟩ (.string t175)).heap[gb155]? = some (.cells #[.int .i64 a0_0, .slice (some ad164) l0_1.length c0_1] 59 (0, 0))) := ⟨by (with_reducible repeat (first | refine blk_drewN ?_ _ | refine blk_drew ?_ | refine blk_alloc ?_ _)); refine blk_far ?_ NB155_177.out _; (with_reducible repeat (first | refine blk_drewN ?_ _ | refine blk_drew ?_ | refine blk_alloc ?_ _)); refine blk_far ?_ NB155_177.out _; (with_reducible repeat (first | refine blk_drewN ?_ _ | refine blk_drew ?_ | refine blk_alloc ?_ _)); refine blk_far ?_ NB155_177.out _; (with_reducible repeat (first | refine blk_drewN ?_ _ | refine blk_drew ?_ | refine blk_alloc ?_ _)); refine blk_far ?_ NB155_177.out _; (with_reducible repeat (first | refine blk_drewN ?_ _ | refine blk_drew ?_ | refine blk_alloc ?_ _)); refine blk_far ?_ NB155_176.out _; (with_reducible repeat (first | refine blk_drewN ?_ _ | refine blk_drew ?_ | refine blk_alloc ?_ _)); refine blk_far ?_ NB155_176.out _; (with_reducible repeat (first | refine blk_drewN ?_ _ | refine blk_drew ?_ | refine blk_alloc ?_ _)); refine blk_far ?_ NB155_176.out _; (with_reducible repeat (first | refine blk_drewN ?_ _ | refine blk_drew ?_ | refine blk_alloc ?_ _)); refine blk_far ?_ NB155_176.out _; (with_reducible repeat (first | refine blk_drewN ?_ _ | refine blk_drew ?_ | refine blk_alloc ?_ _)); exact BK155.out⟩
                          have n2_ : Aside0 (((((((((w42.setCell ⟨gb176, 0, none⟩ (.bool t168)).setCell ⟨gb176, 1, none⟩ (.int .i64 t169)).setCell ⟨gb176, 2, none⟩ (.int .i64 t170)).setCell ⟨gb176, 3, none⟩ (.string t171)).setCell ⟨gb177, 0, none⟩ (.bool t172)).setCell ⟨gb177, 1, none⟩ (.int .i64 t173)).setCell ⟨gb177, 2, none⟩ (.int .i64 t174)).setCell ⟨gb177, 3, none⟩ (.string t175)).heap[gb165]? = some (.cells #[.int .i64 ((rd_T87 l0_1 x6_2).f0), .int .i64 ((rd_T87 l0_1 x6_2).f1)] 87 (0, 0))) := ⟨by (with_reducible repeat (first | refine blk_drewN ?_ _ | refine blk_drew ?_ | refine blk_alloc ?_ _)); refine blk_far ?_ NB165_177.out _; (with_reducible repeat (first | refine blk_drewN ?_ _ | refine blk_drew ?_ | refine blk_alloc ?_ _)); refine blk_far ?_ NB165_177.out _; (with_reducible repeat (first | refine blk_drewN ?_ _ | refine blk_drew ?_ | refine blk_alloc ?_ _)); refine blk_far ?_ NB165_177.out _; (with_reducible repeat (first | refine blk_drewN ?_ _ | refine blk_drew ?_ | refine blk_alloc ?_ _)); refine blk_far ?_ NB165_177.out _; (with_reducible repeat (first | refine blk_drewN ?_ _ | refine blk_drew ?_ | refine blk_alloc ?_ _)); refine blk_far ?_ NB165_176.out _; (with_reducible repeat (first | refine blk_drewN ?_ _ | refine blk_drew ?_ | refine blk_alloc ?_ _)); refine blk_far ?_ NB165_176.out _; (with_reducible repeat (first | refine blk_drewN ?_ _ | refine blk_drew ?_ | refine blk_alloc ?_ _)); refine blk_far ?_ NB165_176.out _; (with_reducible repeat (first | refine blk_drewN ?_ _ | refine blk_drew ?_ | refine blk_alloc ?_ _)); refine blk_far ?_ NB165_176.out _; (with_reducible repeat (first | refine blk_drewN ?_ _ | refine blk_drew ?_ | refine blk_alloc ?_ _)); exact BK165.out⟩
                          have n3_ : Aside0 (((((((((w42.setCell ⟨gb176, 0, none⟩ (.bool t168)).setCell ⟨gb176, 1, none⟩ (.int .i64 t169)).setCell ⟨gb176, 2, none⟩ (.int .i64 t170)).setCell ⟨gb176, 3, none⟩ (.string t171)).setCell ⟨gb177, 0, none⟩ (.bool t172)).setCell ⟨gb177, 1, none⟩ (.int .i64 t173)).setCell ⟨gb177, 2, none⟩ (.int .i64 t174)).setCell ⟨gb177, 3, none⟩ (.string t175)).heap[gb176]? = some (.cells #[.bool t168, .int .i64 t169, .int .i64 t170, .string t171] 26 (0, 0))) := ⟨by (with_reducible repeat (first | refine blk_drewN ?_ _ | refine blk_drew ?_ | refine blk_alloc ?_ _)); refine blk_far ?_ NB176_177.out _; (with_reducible repeat (first | refine blk_drewN ?_ _ | refine blk_drew ?_ | refine blk_alloc ?_ _)); refine blk_far ?_ NB176_177.out _; (with_reducible repeat (first | refine blk_drewN ?_ _ | refine blk_drew ?_ | refine blk_alloc ?_ _)); refine blk_far ?_ NB176_177.out _; (with_reducible repeat (first | refine blk_drewN ?_ _ | refine blk_drew ?_ | refine blk_alloc ?_ _)); refine blk_far ?_ NB176_177.out _; (with_reducible repeat (first | refine blk_drewN ?_ _ | refine blk_drew ?_ | refine blk_alloc ?_ _)); refine blk_put (cs := #[.bool t168, .int .i64 t169, .int .i64 t170, .string (⟨#[]⟩ : ByteArray)]) ?_ 3 _ rfl; (with_reducible repeat (first | refine blk_drewN ?_ _ | refine blk_drew ?_ | refine blk_alloc ?_ _)); refine blk_put (cs := #[.bool t168, .int .i64 t169, .int .i64 0, .string (⟨#[]⟩ : ByteArray)]) ?_ 2 _ rfl; (with_reducible repeat (first | refine blk_drewN ?_ _ | refine blk_drew ?_ | refine blk_alloc ?_ _)); refine blk_put (cs := #[.bool t168, .int .i64 0, .int .i64 0, .string (⟨#[]⟩ : ByteArray)]) ?_ 1 _ rfl; (with_reducible repeat (first | refine blk_drewN ?_ _ | refine blk_drew ?_ | refine blk_alloc ?_ _)); refine blk_put (cs := #[.bool false, .int .i64 0, .int .i64 0, .string (⟨#[]⟩ : ByteArray)]) ?_ 0 _ rfl; (with_reducible repeat (first | refine blk_drewN ?_ _ | refine blk_drew ?_ | refine blk_alloc ?_ _)); exact BK176.out⟩
                          have n4_ : Aside0 (((((((((w42.setCell ⟨gb176, 0, none⟩ (.bool t168)).setCell ⟨gb176, 1, none⟩ (.int .i64 t169)).setCell ⟨gb176, 2, none⟩ (.int .i64 t170)).setCell ⟨gb176, 3, none⟩ (.string t171)).setCell ⟨gb177, 0, none⟩ (.bool t172)).setCell ⟨gb177, 1, none⟩ (.int .i64 t173)).setCell ⟨gb177, 2, none⟩ (.int .i64 t174)).setCell ⟨gb177, 3, none⟩ (.string t175)).heap[gb177]? = some (.cells #[.bool t172, .int .i64 t173, .int .i64 t174, .string t175] 26 (0, 0))) := ⟨by (with_reducible repeat (first | refine blk_drewN ?_ _ | refine blk_drew ?_ | refine blk_alloc ?_ _)); refine blk_put (cs := #[.bool t172, .int .i64 t173, .int .i64 t174, .string (⟨#[]⟩ : ByteArray)]) ?_ 3 _ rfl; (with_reducible repeat (first | refine blk_drewN ?_ _ | refine blk_drew ?_ | refine blk_alloc ?_ _)); refine blk_put (cs := #[.bool t172, .int .i64 t173, .int .i64 0, .string (⟨#[]⟩ : ByteArray)]) ?_ 2 _ rfl; (with_reducible repeat (first | refine blk_drewN ?_ _ | refine blk_drew ?_ | refine blk_alloc ?_ _)); refine blk_put (cs := #[.bool t172, .int .i64 0, .int .i64 0, .string (⟨#[]⟩ : ByteArray)]) ?_ 1 _ rfl; (with_reducible repeat (first | refine blk_drewN ?_ _ | refine blk_drew ?_ | refine blk_alloc ?_ _)); refine blk_put (cs := #[.bool false, .int .i64 0, .int .i64 0, .string (⟨#[]⟩ : ByteArray)]) ?_ 0 _ rfl; (with_reducible repeat (first | refine blk_drewN ?_ _ | refine blk_drew ?_ | refine blk_alloc ?_ _)); refine blk_far ?_ NB177_176.out _; (with_reducible repeat (first | refine blk_drewN ?_ _ | refine blk_drew ?_ | refine blk_alloc ?_ _)); refine blk_far ?_ NB177_176.out _; (with_reducible repeat (first | refine blk_drewN ?_ _ | refine blk_drew ?_ | refine blk_alloc ?_ _)); refine blk_far ?_ NB177_176.out _; (with_reducible repeat (first | refine blk_drewN ?_ _ | refine blk_drew ?_ | refine blk_alloc ?_ _)); refine blk_far ?_ NB177_176.out _; (with_reducible repeat (first | refine blk_drewN ?_ _ | refine blk_drew ?_ | refine blk_alloc ?_ _)); exact BK177.out⟩
                          have n5_ : Aside0 (Below w.heap.size w ((((((((w42.setCell ⟨gb176, 0, none⟩ (.bool t168)).setCell ⟨gb176, 1, none⟩ (.int .i64 t169)).setCell ⟨gb176, 2, none⟩ (.int .i64 t170)).setCell ⟨gb176, 3, none⟩ (.string t171)).setCell ⟨gb177, 0, none⟩ (.bool t172)).setCell ⟨gb177, 1, none⟩ (.int .i64 t173)).setCell ⟨gb177, 2, none⟩ (.int .i64 t174)).setCell ⟨gb177, 3, none⟩ (.string t175))) := ⟨by repeat (first | (with_reducible first | exact HB.out | apply below_alloc | apply pw_below_drewN | apply below_drew1 | refine below_set ?_ GE155.out | refine below_set ?_ GE165.out | refine below_set ?_ GE176.out | refine below_set ?_ GE177.out) | exact HB.out)⟩
                          (try clear HO_5)
                          (try clear BK155)
                          (try clear BK165)
                          (try clear BK176)
                          (try clear BK177)
                          (try clear HB)
                          generalize ((((((((w42.setCell ⟨gb176, 0, none⟩ (.bool t168)).setCell ⟨gb176, 1, none⟩ (.int .i64 t169)).setCell ⟨gb176, 2, none⟩ (.int .i64 t170)).setCell ⟨gb176, 3, none⟩ (.string t171)).setCell ⟨gb177, 0, none⟩ (.bool t172)).setCell ⟨gb177, 1, none⟩ (.int .i64 t173)).setCell ⟨gb177, 2, none⟩ (.int .i64 t174)).setCell ⟨gb177, 3, none⟩ (.string t175)) = w51 at n0_ n1_ n2_ n3_ n4_ n5_ ⊢
                          have HO_5 := n0_
                          have BK155 := n1_
                          have BK165 := n2_
                          have BK176 := n3_
                          have BK177 := n4_
                          have HB := n5_
                          clear n0_ n1_ n2_ n3_ n4_ n5_
                          have hnb52 := NB165_176.out
                          have hnc52 := NB176_165.out
                          have hnb53 := NB165_177.out
                          have hnc53 := NB177_165.out
                          have hcz54_0 : w51.cell? ⟨gb165, 0, none⟩ = some (.int .i64 ((rd_T87 l0_1 x6_2).f0)) := (blk_cell BK165.out 0).trans rfl
                          have hcz54_1 : w51.cell? ⟨gb165, 1, none⟩ = some (.int .i64 ((rd_T87 l0_1 x6_2).f1)) := (blk_cell BK165.out 1).trans rfl
                          have hfz54_0 := blk_frozen BK165.out 0
                          have hfz54_1 := blk_frozen BK165.out 1
                          have hnb55 := NB176_155.out
                          have hnc55 := NB155_176.out
                          have hnb56 := NB176_177.out
                          have hnc56 := NB177_176.out
                          have hcz57_0 : w51.cell? ⟨gb176, 0, none⟩ = some (.bool t168) := (blk_cell BK176.out 0).trans rfl
                          have hcz57_1 : w51.cell? ⟨gb176, 1, none⟩ = some (.int .i64 t169) := (blk_cell BK176.out 1).trans rfl
                          have hcz57_2 : w51.cell? ⟨gb176, 2, none⟩ = some (.int .i64 t170) := (blk_cell BK176.out 2).trans rfl
                          have hcz57_3 : w51.cell? ⟨gb176, 3, none⟩ = some (.string t171) := (blk_cell BK176.out 3).trans rfl
                          have hfz57_0 := blk_frozen BK176.out 0
                          have hfz57_1 := blk_frozen BK176.out 1
                          have hfz57_2 := blk_frozen BK176.out 2
                          have hfz57_3 := blk_frozen BK176.out 3
                          have p30 : 0 ≤ (((rd_T87 l0_1 x6_2).f0) : Int) := of_decide_eq_true (by first | (with_reducible assumption) | assumption)
                          have q30 : (((rd_T87 l0_1 x6_2).f0) : Int) < ((x5_2.length : Int) : Int) := of_decide_eq_true (by first | (with_reducible assumption) | assumption)
                          obtain ⟨go30, co30, eo30, gb30, gl30, cl30, HG30⟩ := Kd.R_form HO_5.out (by omega)
                          (first | cases eo30 | (injection eo30 with ea_ en_ ec_; (first | subst ea_ | (injection ea_ with ea_; subst ea_)); subst ec_; clear en_))
                          have GB30 := Aside0.mk gb30
                          have GG30 := Aside0.mk HG30
                          clear gb30 gl30 HG30
                          (first | simp only [add_plain] at hx166_0 | skip)
                          (first | simp only [add_plain] at hx166_1 | skip)
                          (first | simp only [add_plain] at hx166_2 | skip)
                          (first | simp only [add_plain] at hx166_3 | skip)
                          (first | simp only [add_plain] at hx167_0 | skip)
                          (first | simp only [add_plain] at hx167_1 | skip)
                          (first | simp only [add_plain] at hx167_2 | skip)
                          (first | simp only [add_plain] at hx167_3 | skip)
                          obtain ⟨ce30, hcl30, hM30, hcc30, hfr30⟩ := Kd.R_elem HO_5.out z26 (((rd_T87 l0_1 x6_2).f0) : Int) p30 q30
                          obtain rfl := k26_openM hM30
                          have hx30_0 : w51.cell? ⟨go30, (((rd_T87 l0_1 x6_2).f0) : Int).toNat * 4, none⟩ = some (.bool ((rd_T26 x5_2 ((rd_T87 l0_1 x6_2).f0)).f0)) := hcc30 0 _ rfl
                          have hx30_1 : w51.cell? ⟨go30, (((rd_T87 l0_1 x6_2).f0) : Int).toNat * 4 + 1, none⟩ = some (.int .i64 ((rd_T26 x5_2 ((rd_T87 l0_1 x6_2).f0)).f1)) := hcc30 1 _ rfl
                          have hx30_2 : w51.cell? ⟨go30, (((rd_T87 l0_1 x6_2).f0) : Int).toNat * 4 + 2, none⟩ = some (.int .i64 ((rd_T26 x5_2 ((rd_T87 l0_1 x6_2).f0)).f2)) := hcc30 2 _ rfl
                          have hx30_3 : w51.cell? ⟨go30, (((rd_T87 l0_1 x6_2).f0) : Int).toNat * 4 + 3, none⟩ = some (.string ((rd_T26 x5_2 ((rd_T87 l0_1 x6_2).f0)).f3)) := hcc30 3 _ rfl
                          have hf30_0 : w51.frozen? ⟨go30, (((rd_T87 l0_1 x6_2).f0) : Int).toNat * 4, none⟩ = false := hfr30 0
                          have hf30_1 : w51.frozen? ⟨go30, (((rd_T87 l0_1 x6_2).f0) : Int).toNat * 4 + 1, none⟩ = false := hfr30 1
                          have hf30_2 : w51.frozen? ⟨go30, (((rd_T87 l0_1 x6_2).f0) : Int).toNat * 4 + 2, none⟩ = false := hfr30 2
                          have hf30_3 : w51.frozen? ⟨go30, (((rd_T87 l0_1 x6_2).f0) : Int).toNat * 4 + 3, none⟩ = false := hfr30 3
                          clear hcl30 hcc30 hfr30 hM30
                          replace p30 := eq_true p30
                          replace q30 := eq_true q30
                          have HX58 := Aside0.mk (show Kd.R k26 26 w51 w.heap.size (fun k_ => k_ ≠ gb176 ∧ k_ ≠ gb177) (.slice (some ⟨go30, 0, none⟩) x5_2.length co38) x5_2 from (by (with_reducible repeat (first | apply Kd.R_alloc | apply Kd.R_drewN | apply Kd.R_drew)); exact HO_5.out))
                          obtain ⟨ce58, hcl58, hM58, hcc58, hfr58⟩ := Kd.R_elem HX58.out z26 (((rd_T87 l0_1 x6_2).f0) : Int) (of_decide_eq_true (by first | (with_reducible assumption) | assumption)) (by have h_ : (((rd_T87 l0_1 x6_2).f0) : Int) < ((x5_2.length : Int) : Int) := of_decide_eq_true (by first | (with_reducible assumption) | assumption); first | exact h_ | (have e_ := (Kd.R_reads' HO_5.out).1; omega) | simpa using h_)
                          obtain rfl := k26_openM hM58
                          have HP58 := Kd.R_seg HX58.out (((rd_T87 l0_1 x6_2).f0) : Int) (of_decide_eq_true (by first | (with_reducible assumption) | assumption)) (by have h_ : (((rd_T87 l0_1 x6_2).f0) : Int) < ((x5_2.length : Int) : Int) := of_decide_eq_true (by first | (with_reducible assumption) | assumption); first | exact h_ | (have e_ := (Kd.R_reads' HO_5.out).1; omega) | simpa using h_) (seg := [.bool t168, .int .i64 t169, .int .i64 t170, .string t171]) (j := 0) hcl58 hcc58 (show 4 ≤ 4 from by decide) (x' := (⟨t168, t169, t170, t171⟩ : S26)) (k26_mkM _ _ _ (⟨t168, t169, t170, t171⟩ : S26) ) (fun _ hk => hk)
                          have hx58_0 := hcc58 0 _ rfl
                          (try simp only [show (k26).sz = 4 from rfl, Nat.mul_one, Nat.add_zero] at hx58_0)
                          have hf58_0 := hfr58 0
                          (try simp only [show (k26).sz = 4 from rfl, Nat.mul_one, Nat.add_zero] at hf58_0)
                          have hx58_1 := hcc58 1 _ rfl
                          (try simp only [show (k26).sz = 4 from rfl, Nat.mul_one, Nat.add_zero] at hx58_1)
                          have hf58_1 := hfr58 1
                          (try simp only [show (k26).sz = 4 from rfl, Nat.mul_one, Nat.add_zero] at hf58_1)
                          have hx58_2 := hcc58 2 _ rfl
                          (try simp only [show (k26).sz = 4 from rfl, Nat.mul_one, Nat.add_zero] at hx58_2)
                          have hf58_2 := hfr58 2
                          (try simp only [show (k26).sz = 4 from rfl, Nat.mul_one, Nat.add_zero] at hf58_2)
                          have hx58_3 := hcc58 3 _ rfl
                          (try simp only [show (k26).sz = 4 from rfl, Nat.mul_one, Nat.add_zero] at hx58_3)
                          have hf58_3 := hfr58 3
                          (try simp only [show (k26).sz = 4 from rfl, Nat.mul_one, Nat.add_zero] at hf58_3)
                          clear hcl58 hcc58 hfr58 hM58
                          try go_wp2_with (first | ((with_reducible refine gate_store (t := 26) (p := 58) rfl ?_); refine store_event (t := 26) (p := 58) (v := ?vo_w59) (w1 := ((((w51.setCell ⟨go30, (((rd_T87 l0_1 x6_2).f0) : Int).toNat * 4, none⟩ (.bool t168)).setCell ⟨go30, (((rd_T87 l0_1 x6_2).f0) : Int).toNat * 4 + 1, none⟩ (.int .i64 t169)).setCell ⟨go30, (((rd_T87 l0_1 x6_2).f0) : Int).toNat * 4 + 2, none⟩ (.int .i64 t170)).setCell ⟨go30, (((rd_T87 l0_1 x6_2).f0) : Int).toNat * 4 + 3, none⟩ (.string t171))) ?hg ?ho ?hn ?hr ?_; (case ho => rfl); (case hg => rfl); (case hn => rfl); (case hr => first | (go_simp; done) | (go_simp; rfl)); intro w59 hw; have hg : w51.grownBy w59 (some go30) := (by rw [hw]; exact HP58.2); have hp_ : Kd.R k26 26 w59 w.heap.size (fun k_ => k_ ≠ gb176 ∧ k_ ≠ gb177) (.slice (some ⟨go30, 0, none⟩) x5_2.length co38) y178 := (by rw [hw, Ny178.out]; exact HP58.1); clear HP58; have n0_ := Aside0.mk (hp_); have n1_ := Aside0.mk (blk_grown (g := gb155) (o := .cells #[.int .i64 a0_0, .slice (some ad164) l0_1.length c0_1] 59 (0, 0)) (by (with_reducible repeat (first | refine blk_drewN ?_ _ | refine blk_drew ?_ | refine blk_alloc ?_ _)); exact BK155.out) hg (Kd.R_ne HO_5.out BK155.out (by decide))); have n2_ := Aside0.mk (blk_grown (g := gb165) (o := .cells #[.int .i64 ((rd_T87 l0_1 x6_2).f0), .int .i64 ((rd_T87 l0_1 x6_2).f1)] 87 (0, 0)) (by (with_reducible repeat (first | refine blk_drewN ?_ _ | refine blk_drew ?_ | refine blk_alloc ?_ _)); exact BK165.out) hg (Kd.R_ne HO_5.out BK165.out (by decide))); have n3_ := Aside0.mk (blk_grown (g := gb176) (o := .cells #[.bool t168, .int .i64 t169, .int .i64 t170, .string t171] 26 (0, 0)) (by (with_reducible repeat (first | refine blk_drewN ?_ _ | refine blk_drew ?_ | refine blk_alloc ?_ _)); exact BK176.out) hg (Kd.R_away HO_5.out (fun _ hk => by first | exact hk.1 | trivial))); have n4_ := Aside0.mk (blk_grown (g := gb177) (o := .cells #[.bool t172, .int .i64 t173, .int .i64 t174, .string t175] 26 (0, 0)) (by (with_reducible repeat (first | refine blk_drewN ?_ _ | refine blk_drew ?_ | refine blk_alloc ?_ _)); exact BK177.out) hg (Kd.R_away HO_5.out (fun _ hk => by first | exact hk.2 | trivial))); have n5_ := Aside0.mk ((by rw [hw]; exact below_set (below_set (below_set (below_set (HB.out) GB30.out) GB30.out) GB30.out) GB30.out : Below w.heap.size w w59)); clear HO_5; clear BK155; clear BK165; clear BK176; clear BK177; clear HB; have HO_5 := n0_; have BK155 := n1_; have BK165 := n2_; have BK176 := n3_; have BK177 := n4_; have HB := n5_; clear n0_ n1_ n2_ n3_ n4_ n5_; clear hg hw hp_; have hcz60_0 : w59.cell? ⟨gb165, 0, none⟩ = some (.int .i64 ((rd_T87 l0_1 x6_2).f0)) := (blk_cell BK165.out 0).trans rfl; have hcz60_1 : w59.cell? ⟨gb165, 1, none⟩ = some (.int .i64 ((rd_T87 l0_1 x6_2).f1)) := (blk_cell BK165.out 1).trans rfl; have hfz60_0 := blk_frozen BK165.out 0; have hfz60_1 := blk_frozen BK165.out 1; have hnb61 := NB177_155.out; have hnc61 := NB155_177.out; have hcz62_0 : w59.cell? ⟨gb177, 0, none⟩ = some (.bool t172) := (blk_cell BK177.out 0).trans rfl; have hcz62_1 : w59.cell? ⟨gb177, 1, none⟩ = some (.int .i64 t173) := (blk_cell BK177.out 1).trans rfl; have hcz62_2 : w59.cell? ⟨gb177, 2, none⟩ = some (.int .i64 t174) := (blk_cell BK177.out 2).trans rfl; have hcz62_3 : w59.cell? ⟨gb177, 3, none⟩ = some (.string t175) := (blk_cell BK177.out 3).trans rfl; have hfz62_0 := blk_frozen BK177.out 0; have hfz62_1 := blk_frozen BK177.out 1; have hfz62_2 := blk_frozen BK177.out 2; have hfz62_3 := blk_frozen BK177.out 3; have p31 : 0 ≤ (((rd_T87 l0_1 x6_2).f1) : Int) := of_decide_eq_true (by first | (with_reducible assumption) | assumption); have q31 : (((rd_T87 l0_1 x6_2).f1) : Int) < ((x5_2.length : Int) : Int) := of_decide_eq_true (by first | (with_reducible assumption) | assumption); obtain ⟨ce31, hcl31, hM31, hcc31, hfr31⟩ := Kd.R_elem HO_5.out z26 (((rd_T87 l0_1 x6_2).f1) : Int) p31 q31; obtain rfl := k26_openM hM31; have hx31_0 : w59.cell? ⟨go30, (((rd_T87 l0_1 x6_2).f1) : Int).toNat * 4, none⟩ = some (.bool ((rd_T26 y178 ((rd_T87 l0_1 x6_2).f1)).f0)) := hcc31 0 _ rfl; have hx31_1 : w59.cell? ⟨go30, (((rd_T87 l0_1 x6_2).f1) : Int).toNat * 4 + 1, none⟩ = some (.int .i64 ((rd_T26 y178 ((rd_T87 l0_1 x6_2).f1)).f1)) := hcc31 1 _ rfl; have hx31_2 : w59.cell? ⟨go30, (((rd_T87 l0_1 x6_2).f1) : Int).toNat * 4 + 2, none⟩ = some (.int .i64 ((rd_T26 y178 ((rd_T87 l0_1 x6_2).f1)).f2)) := hcc31 2 _ rfl; have hx31_3 : w59.cell? ⟨go30, (((rd_T87 l0_1 x6_2).f1) : Int).toNat * 4 + 3, none⟩ = some (.string ((rd_T26 y178 ((rd_T87 l0_1 x6_2).f1)).f3)) := hcc31 3 _ rfl; have hf31_0 : w59.frozen? ⟨go30, (((rd_T87 l0_1 x6_2).f1) : Int).toNat * 4, none⟩ = false := hfr31 0; have hf31_1 : w59.frozen? ⟨go30, (((rd_T87 l0_1 x6_2).f1) : Int).toNat * 4 + 1, none⟩ = false := hfr31 1; have hf31_2 : w59.frozen? ⟨go30, (((rd_T87 l0_1 x6_2).f1) : Int).toNat * 4 + 2, none⟩ = false := hfr31 2; have hf31_3 : w59.frozen? ⟨go30, (((rd_T87 l0_1 x6_2).f1) : Int).toNat * 4 + 3, none⟩ = false := hfr31 3; clear hcl31 hcc31 hfr31 hM31; replace p31 := eq_true p31; replace q31 := eq_true q31; have HX63 := Aside0.mk (show Kd.R k26 26 w59 w.heap.size (fun k_ => k_ ≠ gb176 ∧ k_ ≠ gb177) (.slice (some ⟨go30, 0, none⟩) x5_2.length co38) y178 from (by (with_reducible repeat (first | apply Kd.R_alloc | apply Kd.R_drewN | apply Kd.R_drew)); exact HO_5.out)); obtain ⟨ce63, hcl63, hM63, hcc63, hfr63⟩ := Kd.R_elem HX63.out z26 (((rd_T87 l0_1 x6_2).f1) : Int) (of_decide_eq_true (by first | (with_reducible assumption) | assumption)) (by have h_ : (((rd_T87 l0_1 x6_2).f1) : Int) < ((x5_2.length : Int) : Int) := of_decide_eq_true (by first | (with_reducible assumption) | assumption); first | exact h_ | (have e_ := (Kd.R_reads' HO_5.out).1; omega) | simpa using h_); obtain rfl := k26_openM hM63; have HP63 := Kd.R_seg HX63.out (((rd_T87 l0_1 x6_2).f1) : Int) (of_decide_eq_true (by first | (with_reducible assumption) | assumption)) (by have h_ : (((rd_T87 l0_1 x6_2).f1) : Int) < ((x5_2.length : Int) : Int) := of_decide_eq_true (by first | (with_reducible assumption) | assumption); first | exact h_ | (have e_ := (Kd.R_reads' HO_5.out).1; omega) | simpa using h_) (seg := [.bool t172, .int .i64 t173, .int .i64 t174, .string t175]) (j := 0) hcl63 hcc63 (show 4 ≤ 4 from by decide) (x' := (⟨t172, t173, t174, t175⟩ : S26)) (k26_mkM _ _ _ (⟨t172, t173, t174, t175⟩ : S26) ) (fun _ hk => hk); have hx63_0 := hcc63 0 _ rfl; (try simp only [show (k26).sz = 4 from rfl, Nat.mul_one, Nat.add_zero] at hx63_0); have hf63_0 := hfr63 0; (try simp only [show (k26).sz = 4 from rfl, Nat.mul_one, Nat.add_zero] at hf63_0); have hx63_1 := hcc63 1 _ rfl; (try simp only [show (k26).sz = 4 from rfl, Nat.mul_one, Nat.add_zero] at hx63_1); have hf63_1 := hfr63 1; (try simp only [show (k26).sz = 4 from rfl, Nat.mul_one, Nat.add_zero] at hf63_1); have hx63_2 := hcc63 2 _ rfl; (try simp only [show (k26).sz = 4 from rfl, Nat.mul_one, Nat.add_zero] at hx63_2); have hf63_2 := hfr63 2; (try simp only [show (k26).sz = 4 from rfl, Nat.mul_one, Nat.add_zero] at hf63_2); have hx63_3 := hcc63 3 _ rfl; (try simp only [show (k26).sz = 4 from rfl, Nat.mul_one, Nat.add_zero] at hx63_3); have hf63_3 := hfr63 3; (try simp only [show (k26).sz = 4 from rfl, Nat.mul_one, Nat.add_zero] at hf63_3); clear hcl63 hcc63 hfr63 hM63) | ((with_reducible refine gate_store (t := 26) (p := 63) rfl ?_); refine store_event (t := 26) (p := 63) (v := ?vo_w64) (w1 := ((((w59.setCell ⟨go30, (((rd_T87 l0_1 x6_2).f1) : Int).toNat * 4, none⟩ (.bool t172)).setCell ⟨go30, (((rd_T87 l0_1 x6_2).f1) : Int).toNat * 4 + 1, none⟩ (.int .i64 t173)).setCell ⟨go30, (((rd_T87 l0_1 x6_2).f1) : Int).toNat * 4 + 2, none⟩ (.int .i64 t174)).setCell ⟨go30, (((rd_T87 l0_1 x6_2).f1) : Int).toNat * 4 + 3, none⟩ (.string t175))) ?hg ?ho ?hn ?hr ?_; (case ho => rfl); (case hg => rfl); (case hn => rfl); (case hr => first | (go_simp; done) | (go_simp; rfl)); intro w64 hw; have hg : w59.grownBy w64 (some go30) := (by rw [hw]; exact HP63.2); have hp_ : Kd.R k26 26 w64 w.heap.size (fun k_ => k_ ≠ gb176 ∧ k_ ≠ gb177) (.slice (some ⟨go30, 0, none⟩) x5_2.length co38) y179 := (by rw [hw, Ny179.out]; exact HP63.1); clear HP63; have n0_ := Aside0.mk (hp_); have n1_ := Aside0.mk (blk_grown (g := gb155) (o := .cells #[.int .i64 a0_0, .slice (some ad164) l0_1.length c0_1] 59 (0, 0)) (by (with_reducible repeat (first | refine blk_drewN ?_ _ | refine blk_drew ?_ | refine blk_alloc ?_ _)); exact BK155.out) hg (Kd.R_ne HO_5.out BK155.out (by decide))); have n2_ := Aside0.mk (blk_grown (g := gb165) (o := .cells #[.int .i64 ((rd_T87 l0_1 x6_2).f0), .int .i64 ((rd_T87 l0_1 x6_2).f1)] 87 (0, 0)) (by (with_reducible repeat (first | refine blk_drewN ?_ _ | refine blk_drew ?_ | refine blk_alloc ?_ _)); exact BK165.out) hg (Kd.R_ne HO_5.out BK165.out (by decide))); have n3_ := Aside0.mk (blk_grown (g := gb176) (o := .cells #[.bool t168, .int .i64 t169, .int .i64 t170, .string t171] 26 (0, 0)) (by (with_reducible repeat (first | refine blk_drewN ?_ _ | refine blk_drew ?_ | refine blk_alloc ?_ _)); exact BK176.out) hg (Kd.R_away HO_5.out (fun _ hk => by first | exact hk.1 | trivial))); have n4_ := Aside0.mk (blk_grown (g := gb177) (o := .cells #[.bool t172, .int .i64 t173, .int .i64 t174, .string t175] 26 (0, 0)) (by (with_reducible repeat (first | refine blk_drewN ?_ _ | refine blk_drew ?_ | refine blk_alloc ?_ _)); exact BK177.out) hg (Kd.R_away HO_5.out (fun _ hk => by first | exact hk.2 | trivial))); have n5_ := Aside0.mk ((by rw [hw]; exact below_set (below_set (below_set (below_set (HB.out) GB30.out) GB30.out) GB30.out) GB30.out : Below w.heap.size w w64)); clear HO_5; clear BK155; clear BK165; clear BK176; clear BK177; clear HB; have HO_5 := n0_; have BK155 := n1_; have BK165 := n2_; have BK176 := n3_; have BK177 := n4_; have HB := n5_; clear n0_ n1_ n2_ n3_ n4_ n5_; clear hg hw hp_))
                          go_roundg k2
                          case measure => have := HJ2.out; have := HK2.out; omega
                          case rel => exact ⟨(y179), (wrap64 (x6_2 + 1)), (by first | rfl | (simp; done) | (simp [*]; done)), H', ⟨by have := HJ2.out; have := HK2.out; omega⟩, ⟨by (with_reducible repeat (first | apply Kd.R_alloc | apply Kd.R_drewN | apply Kd.R_drew)); exact Kd.R_mono HO_5.out (fun _ hk => trivial)⟩, ⟨by (with_reducible repeat (first | refine blk_drewN ?_ _ | refine blk_drew ?_ | refine blk_alloc ?_ _)); exact BK155.out⟩, ⟨by repeat (first | (with_reducible first | exact HB.out | apply below_alloc | apply pw_below_drewN | apply below_drew1 | refine below_set ?_ GE155.out | refine below_set ?_ GE165.out | refine below_set ?_ GE176.out | refine below_set ?_ GE177.out) | exact HB.out)⟩⟩
                        · rw [if_neg c28] at H
                          exact absurd H (by simp)
                      · rw [if_neg c27] at H
                        exact absurd H (by simp)
                    · rw [if_neg c26] at H
                      exact absurd H (by simp)
                  · rw [if_neg c25] at H
                    exact absurd H (by simp)
                · rw [if_neg c24] at H
                  exact absurd H (by simp)
              · rw [if_neg c23] at H
                have c23b0 : decide (x6_2 < (l0_1.length : Int)) = false := decide_eq_false c23
                clear c23
                obtain rfl := Option.some.inj H
                have hcz65_0 : wr.cell? ⟨gb155, 0, none⟩ = some (.int .i64 a0_0) := (blk_cell BK155.out 0).trans rfl
                have hcz65_1 : wr.cell? ⟨gb155, 1, none⟩ = some (.slice A0_1 l0_1.length c0_1) := (blk_cell BK155.out 1).trans rfl
                have hfz65_0 := blk_frozen BK155.out 0
                have hfz65_1 := blk_frozen BK155.out 1
                go_wp2
                go_ret
                exact ⟨_, by first | rfl | (simp [errW_none, errW_some] <;> rfl) | (simp [*, errW_none, errW_some] <;> rfl), by (with_reducible repeat (first | apply Kd.R_alloc | apply Kd.R_drewN | apply Kd.R_drew)); exact HO_5.out, by repeat (first | (with_reducible first | exact HB.out | apply below_alloc | apply pw_below_drewN | apply below_drew1 | refine below_set ?_ GE155.out) | exact HB.out)⟩
        · rw [if_neg c19] at H
          exact absurd H (by simp)

end Go.Proofs.Ytmhikpfaoacgpaa.PFnExactRankBy

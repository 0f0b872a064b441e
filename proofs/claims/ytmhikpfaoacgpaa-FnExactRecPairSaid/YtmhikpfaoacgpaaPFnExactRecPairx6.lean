-- Laid by a program of this session: what the print of the kit writes, and contracts of the session where the print takes no function. Lean checks it.
import Derived.Test.YtmhikpfaoacgpaaPFnExactRecPairx0
import Derived.Test.YtmhikpfaoacgpaaPFnExactRecPairx2
import Derived.Test.YtmhikpfaoacgpaaPFnExactRecPairx3
import Derived.Test.YtmhikpfaoacgpaaPFnExactRecPairx5
namespace Go.Proofs.Ytmhikpfaoacgpaa.PFnExactRecPair
open Go.RowKit Go.Proofs.YtmhikpfaoacgpaaW.PrintWords Go.Proofs.YtmhikpfaoacgpaaW.PrintLast Go.Proofs.YtmhikpfaoacgpaaW.PrintMore
attribute [local go_sem] max2_int min2_int max_two min_two max_three min_three max_four min_four   -- for this text's walks alone
set_option linter.unusedVariables false
set_option linter.unusedSimpArgs false

/-! ### laws_FnExactRecPair: function 7 -/
def laws_FnExactRecPair.f (k : Nat) (a0_0 : Bool) (a0_1 : Int) (a0_2 : Int) (a0_3 : ByteArray) (a1_0 : Bool) (a1_1 : Int) (a1_2 : Int) (a1_3 : ByteArray) : Option (Bool) := (laws_szRec.f a0_0 a0_1 a0_2 a0_3 1048576).bind fun t149 => (if t149 < 0 then (some true) else ((laws_szRec.f a1_0 a1_1 a1_2 a1_3 t149).bind fun t150 => (if t150 < 0 then (some true) else ((laws_toRec.f a0_0 a0_1 a0_2 a0_3).bind fun bt151 => ((laws_toRec.f a1_0 a1_1 a1_2 a1_3).bind fun bt155 => ((spec_RecPair.f k bt151.1 bt151.2.1 bt151.2.2.1 bt151.2.2.2 bt155.1 bt155.2.1 bt155.2.2.1 bt155.2.2.2).bind fun bt159 => ((laws_toRec.f a0_0 a0_1 a0_2 a0_3).bind fun bt169 => ((laws_toRec.f a1_0 a1_1 a1_2 a1_3).bind fun bt173 => ((impl_RecPair.f k bt169.1 bt169.2.1 bt169.2.2.1 bt169.2.2.2 bt173.1 bt173.2.1 bt173.2.2.1 bt173.2.2.2).bind fun bt177 => ((laws_eqRec.f bt177.1 bt177.2.1 bt177.2.2.1 bt177.2.2.2.1 bt159.1 bt159.2.1 bt159.2.2.1 bt159.2.2.2.1).bind fun t187 => (if t187 = true then ((laws_eqRec.f bt177.2.2.2.2.1 bt177.2.2.2.2.2.1 bt177.2.2.2.2.2.2.1 bt177.2.2.2.2.2.2.2 bt159.2.2.2.2.1 bt159.2.2.2.2.2.1 bt159.2.2.2.2.2.2.1 bt159.2.2.2.2.2.2.2).bind fun t188 => (if t188 = true then (some true) else (some false))) else (some false))))))))))))
theorem laws_FnExactRecPair.mono : ∀ a0 a1 a2 a3 a4 a5 a6 a7 k, LeO (laws_FnExactRecPair.f k a0 a1 a2 a3 a4 a5 a6 a7) (laws_FnExactRecPair.f (k + 1) a0 a1 a2 a3 a4 a5 a6 a7) := by
  intro a0 a1 a2 a3 a4 a5 a6 a7 k
  unfold laws_FnExactRecPair.f
  repeat' first
      | (with_reducible exact impl_RecPair.mono _ _ _ _ _ _ _ _ _)
      | (with_reducible exact spec_RecPair.mono _ _ _ _ _ _ _ _ _)
      | (with_reducible exact LeO.refl _)
      | (with_reducible exact LeO.none _)
      | (with_reducible refine LeO.ite ?_ ?_)
      | (with_reducible refine LeO.bind ?_ (fun _ => ?_))
      | exact impl_RecPair.mono _ _ _ _ _ _ _ _ _
      | exact spec_RecPair.mono _ _ _ _ _ _ _ _ _
      | exact LeO.none _
      | refine LeO.ite ?_ ?_
      | refine LeO.bind ?_ (fun _ => ?_)
def laws_FnExactRecPair.T8 : Bool × List (List Nat × List Nat) := (true, [([], []), ([0], [0]), ([], []), ([2, 1], [2]), ([1, 3, 3], [1, 3]), ([4], [4]), ([5], [5]), ([5], [5]), ([], []), ([], []), ([8, 6, 4, 0, 1, 2, 3, 4, 5, 6, 8, 9], [6, 8]), ([9, 7, 10, 0, 1, 2, 3, 4, 5, 6, 7, 8, 9, 10], [7, 9])])
def laws_FnExactRecPair.B8 : List Nat := [0, 1, 0, 7, 15, 31, 63, 63, 0, 0, 895, 2047]
theorem laws_FnExactRecPair.tab8 : rtab .any (opsOf Try.f7 8) = laws_FnExactRecPair.T8 := by kernel_rfl
theorem laws_FnExactRecPair.bits8 : waitsOk laws_FnExactRecPair.T8.2 laws_FnExactRecPair.B8 = true := by kernel_rfl
def laws_FnExactRecPair.T9 : Bool × List (List Nat × List Nat) := (true, [([], []), ([0], [0]), ([], []), ([2, 1], [2]), ([1, 3, 3], [1, 3]), ([4], [4]), ([5], [5]), ([5], [5]), ([], []), ([], []), ([8, 6, 4, 0, 1, 2, 3, 4, 5, 6, 8, 9], [6, 8]), ([9, 7, 10, 0, 1, 2, 3, 4, 5, 6, 7, 8, 9, 10], [7, 9])])
def laws_FnExactRecPair.B9 : List Nat := [0, 1, 0, 7, 15, 31, 63, 63, 0, 0, 895, 2047]
theorem laws_FnExactRecPair.tab9 : rtab .any (opsOf Try.f7 9) = laws_FnExactRecPair.T9 := by kernel_rfl
theorem laws_FnExactRecPair.bits9 : waitsOk laws_FnExactRecPair.T9.2 laws_FnExactRecPair.B9 = true := by kernel_rfl
theorem b7_ {w : World} {g : Nat} {t : TypeId} {cs : Array Value} {v : Value} (h : w.heap[g]? = some (.cells cs t (0, 0))) (i : Nat) (hv : cs[i]? = some v) : w.cell? ⟨g, i, none⟩ = some v := (blk_cell h i).trans hv
set_option maxHeartbeats 8000000 in
set_option maxRecDepth 100000 in
theorem laws_FnExactRecPair.calls (k : Nat) (a0_0 : Bool) (a0_1 : Int) (a0_2 : Int) (a0_3 : ByteArray) (a1_0 : Bool) (a1_1 : Int) (a1_2 : Int) (a1_3 : ByteArray) (r : Bool) (w : World) (h : laws_FnExactRecPair.f k a0_0 a0_1 a0_2 a0_3 a1_0 a1_1 a1_2 a1_3 = some r) (hT_ : r = true := by rfl) :
    Calls Try.prog 7 #[.agg #[.bool a0_0, .int .i64 a0_1, .int .i64 a0_2, .string a0_3], .agg #[.bool a1_0, .int .i64 a1_1, .int .i64 a1_2, .string a1_3]] w fun e w' => e = .returned (.bool r) ∧ Below w.heap.size w w' := by
 have HT_ := Aside0.mk hT_
 clear hT_
 have hu23 := Try.underlying23
 have hu26 := Try.underlying26
 have HB := Aside0.mk (Below.refl w.heap.size w)
 have H : ((laws_szRec.f a0_0 a0_1 a0_2 a0_3 1048576).bind fun t149 => (if t149 < 0 then (some true) else ((laws_szRec.f a1_0 a1_1 a1_2 a1_3 t149).bind fun t150 => (if t150 < 0 then (some true) else ((laws_toRec.f a0_0 a0_1 a0_2 a0_3).bind fun bt151 => ((laws_toRec.f a1_0 a1_1 a1_2 a1_3).bind fun bt155 => ((spec_RecPair.f k bt151.1 bt151.2.1 bt151.2.2.1 bt151.2.2.2 bt155.1 bt155.2.1 bt155.2.2.1 bt155.2.2.2).bind fun bt159 => ((laws_toRec.f a0_0 a0_1 a0_2 a0_3).bind fun bt169 => ((laws_toRec.f a1_0 a1_1 a1_2 a1_3).bind fun bt173 => ((impl_RecPair.f k bt169.1 bt169.2.1 bt169.2.2.1 bt169.2.2.2 bt173.1 bt173.2.1 bt173.2.2.1 bt173.2.2.2).bind fun bt177 => ((laws_eqRec.f bt177.1 bt177.2.1 bt177.2.2.1 bt177.2.2.2.1 bt159.1 bt159.2.1 bt159.2.2.1 bt159.2.2.2.1).bind fun t187 => (if t187 = true then ((laws_eqRec.f bt177.2.2.2.2.1 bt177.2.2.2.2.2.1 bt177.2.2.2.2.2.2.1 bt177.2.2.2.2.2.2.2 bt159.2.2.2.2.1 bt159.2.2.2.2.2.1 bt159.2.2.2.2.2.2.1 bt159.2.2.2.2.2.2.2).bind fun t188 => (if t188 = true then (some true) else (some false))) else (some false))))))))))))) = some r := h
 clear h
 replace H := Option.bind_eq_some_iff.mp H
 obtain ⟨t149, A30, H⟩ := H
 replace H : (if t149 < 0 then (some true) else ((laws_szRec.f a1_0 a1_1 a1_2 a1_3 t149).bind fun t150 => (if t150 < 0 then (some true) else ((laws_toRec.f a0_0 a0_1 a0_2 a0_3).bind fun bt151 => ((laws_toRec.f a1_0 a1_1 a1_2 a1_3).bind fun bt155 => ((spec_RecPair.f k bt151.1 bt151.2.1 bt151.2.2.1 bt151.2.2.2 bt155.1 bt155.2.1 bt155.2.2.1 bt155.2.2.2).bind fun bt159 => ((laws_toRec.f a0_0 a0_1 a0_2 a0_3).bind fun bt169 => ((laws_toRec.f a1_0 a1_1 a1_2 a1_3).bind fun bt173 => ((impl_RecPair.f k bt169.1 bt169.2.1 bt169.2.2.1 bt169.2.2.2 bt173.1 bt173.2.1 bt173.2.2.1 bt173.2.2.2).bind fun bt177 => ((laws_eqRec.f bt177.1 bt177.2.1 bt177.2.2.1 bt177.2.2.2.1 bt159.1 bt159.2.1 bt159.2.2.1 bt159.2.2.2.1).bind fun t187 => (if t187 = true then ((laws_eqRec.f bt177.2.2.2.2.1 bt177.2.2.2.2.2.1 bt177.2.2.2.2.2.2.1 bt177.2.2.2.2.2.2.2 bt159.2.2.2.2.1 bt159.2.2.2.2.2.1 bt159.2.2.2.2.2.2.1 bt159.2.2.2.2.2.2.2).bind fun t188 => (if t188 = true then (some true) else (some false))) else (some false)))))))))))) = some r := H
 have A3 := Aside0.mk A30
 clear A30
 by_cases c4 : t149 < 0
 ·
  rw [if_pos c4] at H
  have c4b0 : decide (t149 < 0) = true := decide_eq_true c4
  clear c4
  obtain rfl := Option.some.inj H
  go_enter Try.func7, Try.ntmps7
  go_wp2_with (first | ((with_reducible refine gate_dst (N := 2) rfl ?_); refine box_event ?hg (N := 2) ?hd (cs := #[.bool a0_0, .int .i64 a0_1, .int .i64 a0_2, .string a0_3]) (t := 23) ?hr ?_; (case hd => rfl); (case hg => rfl); (case hr => first | (go_simp; done) | (go_simp; rfl)); intro gb147 hg w5 hbox hb; have n0_ := Aside0.mk (below_step (by repeat (first | (with_reducible first | exact HB.out | apply below_alloc | apply pw_below_drewN | apply below_drew1) | exact HB.out)) hb); have n1_ := Aside0.mk (hbox); have n2_ := Aside0.mk ((by rw [hg]; exact (below_size (by repeat (first | (with_reducible first | exact HB.out | apply below_alloc | apply pw_below_drewN | apply below_drew1) | exact HB.out))) : w.heap.size ≤ gb147)); have n3_ := Aside0.mk ((by rw [hg]; exact (below_size (by repeat (first | (with_reducible first | exact HB.out | apply below_alloc | apply pw_below_drewN | apply below_drew1) | exact HB.out))) : w.heap.size ≤ gb147)); clear HB; have HB := n0_; have BK147 := n1_; have GW147 := n2_; have GE147 := n3_; clear n0_ n1_ n2_ n3_; clear hb hbox hg) | ((with_reducible refine gate_dst (N := 3) rfl ?_); refine box_event ?hg (N := 3) ?hd (cs := #[.bool a1_0, .int .i64 a1_1, .int .i64 a1_2, .string a1_3]) (t := 23) ?hr ?_; (case hd => rfl); (case hg => rfl); (case hr => first | (go_simp; done) | (go_simp; rfl)); intro gb148 hg w6 hbox hb; have n0_ := Aside0.mk (blk_below (g := gb147) (o := .cells #[.bool a0_0, .int .i64 a0_1, .int .i64 a0_2, .string a0_3] 23 (0, 0)) (by (with_reducible repeat (first | refine blk_drewN ?_ _ | refine blk_drew ?_ | refine blk_alloc ?_ _)); exact BK147.out) hb); have n1_ := Aside0.mk (below_step (by repeat (first | (with_reducible first | exact HB.out | apply below_alloc | apply pw_below_drewN | apply below_drew1 | refine below_set ?_ GE147.out) | exact HB.out)) hb); have n2_ := Aside0.mk (hbox); have n3_ := Aside0.mk ((by rw [hg]; exact (below_size (by repeat (first | (with_reducible first | exact HB.out | apply below_alloc | apply pw_below_drewN | apply below_drew1 | refine below_set ?_ GE147.out) | exact HB.out))) : w.heap.size ≤ gb148)); have n4_ := Aside0.mk ((by rw [hg]; exact (below_size (by repeat (first | (with_reducible first | exact HB.out | apply below_alloc | apply pw_below_drewN | apply below_drew1 | refine below_set ?_ GE147.out) | exact HB.out))) : w.heap.size ≤ gb148)); have n5_ := Aside0.mk ((by rw [hg]; exact Nat.ne_of_lt (blk_lt (g := gb147) (o := .cells #[.bool a0_0, .int .i64 a0_1, .int .i64 a0_2, .string a0_3] 23 (0, 0)) (by (with_reducible repeat (first | refine blk_drewN ?_ _ | refine blk_drew ?_ | refine blk_alloc ?_ _)); exact BK147.out)) : gb147 ≠ gb148)); have n6_ := Aside0.mk ((by rw [hg]; exact Nat.ne_of_gt (blk_lt (g := gb147) (o := .cells #[.bool a0_0, .int .i64 a0_1, .int .i64 a0_2, .string a0_3] 23 (0, 0)) (by (with_reducible repeat (first | refine blk_drewN ?_ _ | refine blk_drew ?_ | refine blk_alloc ?_ _)); exact BK147.out)) : gb148 ≠ gb147)); clear BK147; clear HB; have BK147 := n0_; have HB := n1_; have BK148 := n2_; have GW148 := n3_; have GE148 := n4_; have NB147_148 := n5_; have NB148_147 := n6_; clear n0_ n1_ n2_ n3_ n4_ n5_ n6_; clear hb hbox hg; have hnb7 := NB147_148.out; have hnc7 := NB148_147.out; have hcz8_0 : w6.cell? ⟨gb147, 0, none⟩ = some (.bool a0_0) := b7_ BK147.out 0 rfl; have hcz8_1 : w6.cell? ⟨gb147, 1, none⟩ = some (.int .i64 a0_1) := b7_ BK147.out 1 rfl; have hcz8_2 : w6.cell? ⟨gb147, 2, none⟩ = some (.int .i64 a0_2) := b7_ BK147.out 2 rfl; have hcz8_3 : w6.cell? ⟨gb147, 3, none⟩ = some (.string a0_3) := b7_ BK147.out 3 rfl; have hfz8_0 := blk_frozen BK147.out 0; have hfz8_1 := blk_frozen BK147.out 1; have hfz8_2 := blk_frozen BK147.out 2; have hfz8_3 := blk_frozen BK147.out 3) | ((with_reducible refine gate_callee (f := 17) rfl ?_); refine goesL_ (some 12) rfl rfl Try.func17 (by kernel_rfl) rfl #[.agg #[.bool a0_0, .int .i64 a0_1, .int .i64 a0_2, .string a0_3], .int .i64 1048576] rfl (by (try simp only [List.map_toArray, List.map_cons, List.map_nil]); first | done | rfl | (simp only [List.length_drop, List.length_take]; rfl)) ?_; (with_reducible refine (laws_szRec.calls a0_0 a0_1 a0_2 a0_3 1048576 t149 _ A3.out).mono ?_); rintro e w9 ⟨rfl, hb⟩; refine ⟨_, rfl, ?_⟩; have n0_ := Aside0.mk (blk_below (g := gb147) (o := .cells #[.bool a0_0, .int .i64 a0_1, .int .i64 a0_2, .string a0_3] 23 (0, 0)) (by (with_reducible repeat (first | refine blk_drewN ?_ _ | refine blk_drew ?_ | refine blk_alloc ?_ _)); exact BK147.out) hb); have n1_ := Aside0.mk (blk_below (g := gb148) (o := .cells #[.bool a1_0, .int .i64 a1_1, .int .i64 a1_2, .string a1_3] 23 (0, 0)) (by (with_reducible repeat (first | refine blk_drewN ?_ _ | refine blk_drew ?_ | refine blk_alloc ?_ _)); exact BK148.out) hb); have n2_ := Aside0.mk (below_step (by repeat (first | (with_reducible first | exact HB.out | apply below_alloc | apply pw_below_drewN | apply below_drew1 | refine below_set ?_ GE147.out | refine below_set ?_ GE148.out) | exact HB.out)) hb); clear BK147; clear BK148; clear HB; have BK147 := n0_; have BK148 := n1_; have HB := n2_; clear n0_ n1_ n2_; (try clear hb); (try clear hb2); (try clear hk); (try clear hi)))
  go_ret
  exact ⟨by first | rfl | (simp [errW_none, errW_some] <;> rfl) | (simp [*, errW_none, errW_some] <;> rfl), by repeat (first | (with_reducible first | exact HB.out | apply below_alloc | apply pw_below_drewN | apply below_drew1 | refine below_set ?_ GE147.out | refine below_set ?_ GE148.out) | exact HB.out)⟩
 rw [if_neg c4] at H
 have c4b0 : decide (t149 < 0) = false := decide_eq_false c4
 clear c4
 replace H := Option.bind_eq_some_iff.mp H
 obtain ⟨t150, A100, H⟩ := H
 replace H : (if t150 < 0 then (some true) else ((laws_toRec.f a0_0 a0_1 a0_2 a0_3).bind fun bt151 => ((laws_toRec.f a1_0 a1_1 a1_2 a1_3).bind fun bt155 => ((spec_RecPair.f k bt151.1 bt151.2.1 bt151.2.2.1 bt151.2.2.2 bt155.1 bt155.2.1 bt155.2.2.1 bt155.2.2.2).bind fun bt159 => ((laws_toRec.f a0_0 a0_1 a0_2 a0_3).bind fun bt169 => ((laws_toRec.f a1_0 a1_1 a1_2 a1_3).bind fun bt173 => ((impl_RecPair.f k bt169.1 bt169.2.1 bt169.2.2.1 bt169.2.2.2 bt173.1 bt173.2.1 bt173.2.2.1 bt173.2.2.2).bind fun bt177 => ((laws_eqRec.f bt177.1 bt177.2.1 bt177.2.2.1 bt177.2.2.2.1 bt159.1 bt159.2.1 bt159.2.2.1 bt159.2.2.2.1).bind fun t187 => (if t187 = true then ((laws_eqRec.f bt177.2.2.2.2.1 bt177.2.2.2.2.2.1 bt177.2.2.2.2.2.2.1 bt177.2.2.2.2.2.2.2 bt159.2.2.2.2.1 bt159.2.2.2.2.2.1 bt159.2.2.2.2.2.2.1 bt159.2.2.2.2.2.2.2).bind fun t188 => (if t188 = true then (some true) else (some false))) else (some false)))))))))) = some r := H
 have A10 := Aside0.mk A100
 clear A100
 by_cases c11 : t150 < 0
 ·
  rw [if_pos c11] at H
  have c11b0 : decide (t150 < 0) = true := decide_eq_true c11
  clear c11
  obtain rfl := Option.some.inj H
  go_enter Try.func7, Try.ntmps7
  go_wp2_with (first | ((with_reducible refine gate_dst (N := 2) rfl ?_); refine box_event ?hg (N := 2) ?hd (cs := #[.bool a0_0, .int .i64 a0_1, .int .i64 a0_2, .string a0_3]) (t := 23) ?hr ?_; (case hd => rfl); (case hg => rfl); (case hr => first | (go_simp; done) | (go_simp; rfl)); intro gb147 hg w12 hbox hb; have n0_ := Aside0.mk (below_step (by repeat (first | (with_reducible first | exact HB.out | apply below_alloc | apply pw_below_drewN | apply below_drew1) | exact HB.out)) hb); have n1_ := Aside0.mk (hbox); have n2_ := Aside0.mk ((by rw [hg]; exact (below_size (by repeat (first | (with_reducible first | exact HB.out | apply below_alloc | apply pw_below_drewN | apply below_drew1) | exact HB.out))) : w.heap.size ≤ gb147)); have n3_ := Aside0.mk ((by rw [hg]; exact (below_size (by repeat (first | (with_reducible first | exact HB.out | apply below_alloc | apply pw_below_drewN | apply below_drew1) | exact HB.out))) : w.heap.size ≤ gb147)); clear HB; have HB := n0_; have BK147 := n1_; have GW147 := n2_; have GE147 := n3_; clear n0_ n1_ n2_ n3_; clear hb hbox hg) | ((with_reducible refine gate_dst (N := 3) rfl ?_); refine box_event ?hg (N := 3) ?hd (cs := #[.bool a1_0, .int .i64 a1_1, .int .i64 a1_2, .string a1_3]) (t := 23) ?hr ?_; (case hd => rfl); (case hg => rfl); (case hr => first | (go_simp; done) | (go_simp; rfl)); intro gb148 hg w13 hbox hb; have n0_ := Aside0.mk (blk_below (g := gb147) (o := .cells #[.bool a0_0, .int .i64 a0_1, .int .i64 a0_2, .string a0_3] 23 (0, 0)) (by (with_reducible repeat (first | refine blk_drewN ?_ _ | refine blk_drew ?_ | refine blk_alloc ?_ _)); exact BK147.out) hb); have n1_ := Aside0.mk (below_step (by repeat (first | (with_reducible first | exact HB.out | apply below_alloc | apply pw_below_drewN | apply below_drew1 | refine below_set ?_ GE147.out) | exact HB.out)) hb); have n2_ := Aside0.mk (hbox); have n3_ := Aside0.mk ((by rw [hg]; exact (below_size (by repeat (first | (with_reducible first | exact HB.out | apply below_alloc | apply pw_below_drewN | apply below_drew1 | refine below_set ?_ GE147.out) | exact HB.out))) : w.heap.size ≤ gb148)); have n4_ := Aside0.mk ((by rw [hg]; exact (below_size (by repeat (first | (with_reducible first | exact HB.out | apply below_alloc | apply pw_below_drewN | apply below_drew1 | refine below_set ?_ GE147.out) | exact HB.out))) : w.heap.size ≤ gb148)); have n5_ := Aside0.mk ((by rw [hg]; exact Nat.ne_of_lt (blk_lt (g := gb147) (o := .cells #[.bool a0_0, .int .i64 a0_1, .int .i64 a0_2, .string a0_3] 23 (0, 0)) (by (with_reducible repeat (first | refine blk_drewN ?_ _ | refine blk_drew ?_ | refine blk_alloc ?_ _)); exact BK147.out)) : gb147 ≠ gb148)); have n6_ := Aside0.mk ((by rw [hg]; exact Nat.ne_of_gt (blk_lt (g := gb147) (o := .cells #[.bool a0_0, .int .i64 a0_1, .int .i64 a0_2, .string a0_3] 23 (0, 0)) (by (with_reducible repeat (first | refine blk_drewN ?_ _ | refine blk_drew ?_ | refine blk_alloc ?_ _)); exact BK147.out)) : gb148 ≠ gb147)); clear BK147; clear HB; have BK147 := n0_; have HB := n1_; have BK148 := n2_; have GW148 := n3_; have GE148 := n4_; have NB147_148 := n5_; have NB148_147 := n6_; clear n0_ n1_ n2_ n3_ n4_ n5_ n6_; clear hb hbox hg; have hnb14 := NB147_148.out; have hnc14 := NB148_147.out; have hcz15_0 : w13.cell? ⟨gb147, 0, none⟩ = some (.bool a0_0) := b7_ BK147.out 0 rfl; have hcz15_1 : w13.cell? ⟨gb147, 1, none⟩ = some (.int .i64 a0_1) := b7_ BK147.out 1 rfl; have hcz15_2 : w13.cell? ⟨gb147, 2, none⟩ = some (.int .i64 a0_2) := b7_ BK147.out 2 rfl; have hcz15_3 : w13.cell? ⟨gb147, 3, none⟩ = some (.string a0_3) := b7_ BK147.out 3 rfl; have hfz15_0 := blk_frozen BK147.out 0; have hfz15_1 := blk_frozen BK147.out 1; have hfz15_2 := blk_frozen BK147.out 2; have hfz15_3 := blk_frozen BK147.out 3) | ((with_reducible refine gate_callee (f := 17) rfl ?_); refine goesL_ (some 12) rfl rfl Try.func17 (by kernel_rfl) rfl #[.agg #[.bool a0_0, .int .i64 a0_1, .int .i64 a0_2, .string a0_3], .int .i64 1048576] rfl (by (try simp only [List.map_toArray, List.map_cons, List.map_nil]); first | done | rfl | (simp only [List.length_drop, List.length_take]; rfl)) ?_; (with_reducible refine (laws_szRec.calls a0_0 a0_1 a0_2 a0_3 1048576 t149 _ A3.out).mono ?_); rintro e w16 ⟨rfl, hb⟩; refine ⟨_, rfl, ?_⟩; have n0_ := Aside0.mk (blk_below (g := gb147) (o := .cells #[.bool a0_0, .int .i64 a0_1, .int .i64 a0_2, .string a0_3] 23 (0, 0)) (by (with_reducible repeat (first | refine blk_drewN ?_ _ | refine blk_drew ?_ | refine blk_alloc ?_ _)); exact BK147.out) hb); have n1_ := Aside0.mk (blk_below (g := gb148) (o := .cells #[.bool a1_0, .int .i64 a1_1, .int .i64 a1_2, .string a1_3] 23 (0, 0)) (by (with_reducible repeat (first | refine blk_drewN ?_ _ | refine blk_drew ?_ | refine blk_alloc ?_ _)); exact BK148.out) hb); have n2_ := Aside0.mk (below_step (by repeat (first | (with_reducible first | exact HB.out | apply below_alloc | apply pw_below_drewN | apply below_drew1 | refine below_set ?_ GE147.out | refine below_set ?_ GE148.out) | exact HB.out)) hb); clear BK147; clear BK148; clear HB; have BK147 := n0_; have BK148 := n1_; have HB := n2_; clear n0_ n1_ n2_; (try clear hb); (try clear hb2); (try clear hk); (try clear hi); have hcz17_0 : w16.cell? ⟨gb148, 0, none⟩ = some (.bool a1_0) := b7_ BK148.out 0 rfl; have hcz17_1 : w16.cell? ⟨gb148, 1, none⟩ = some (.int .i64 a1_1) := b7_ BK148.out 1 rfl; have hcz17_2 : w16.cell? ⟨gb148, 2, none⟩ = some (.int .i64 a1_2) := b7_ BK148.out 2 rfl; have hcz17_3 : w16.cell? ⟨gb148, 3, none⟩ = some (.string a1_3) := b7_ BK148.out 3 rfl; have hfz17_0 := blk_frozen BK148.out 0; have hfz17_1 := blk_frozen BK148.out 1; have hfz17_2 := blk_frozen BK148.out 2; have hfz17_3 := blk_frozen BK148.out 3) | ((with_reducible refine gate_callee (f := 17) rfl ?_); refine goesL_ (some 17) rfl rfl Try.func17 (by kernel_rfl) rfl #[.agg #[.bool a1_0, .int .i64 a1_1, .int .i64 a1_2, .string a1_3], .int .i64 t149] rfl (by (try simp only [List.map_toArray, List.map_cons, List.map_nil]); first | done | rfl | (simp only [List.length_drop, List.length_take]; rfl)) ?_; (with_reducible refine (laws_szRec.calls a1_0 a1_1 a1_2 a1_3 t149 t150 _ A10.out).mono ?_); rintro e w18 ⟨rfl, hb⟩; refine ⟨_, rfl, ?_⟩; have n0_ := Aside0.mk (blk_below (g := gb147) (o := .cells #[.bool a0_0, .int .i64 a0_1, .int .i64 a0_2, .string a0_3] 23 (0, 0)) (by (with_reducible repeat (first | refine blk_drewN ?_ _ | refine blk_drew ?_ | refine blk_alloc ?_ _)); exact BK147.out) hb); have n1_ := Aside0.mk (blk_below (g := gb148) (o := .cells #[.bool a1_0, .int .i64 a1_1, .int .i64 a1_2, .string a1_3] 23 (0, 0)) (by (with_reducible repeat (first | refine blk_drewN ?_ _ | refine blk_drew ?_ | refine blk_alloc ?_ _)); exact BK148.out) hb); have n2_ := Aside0.mk (below_step (by repeat (first | (with_reducible first | exact HB.out | apply below_alloc | apply pw_below_drewN | apply below_drew1 | refine below_set ?_ GE147.out | refine below_set ?_ GE148.out) | exact HB.out)) hb); clear BK147; clear BK148; clear HB; have BK147 := n0_; have BK148 := n1_; have HB := n2_; clear n0_ n1_ n2_; (try clear hb); (try clear hb2); (try clear hk); (try clear hi)))
  go_ret
  exact ⟨by first | rfl | (simp [errW_none, errW_some] <;> rfl) | (simp [*, errW_none, errW_some] <;> rfl), by repeat (first | (with_reducible first | exact HB.out | apply below_alloc | apply pw_below_drewN | apply below_drew1 | refine below_set ?_ GE147.out | refine below_set ?_ GE148.out) | exact HB.out)⟩
 rw [if_neg c11] at H
 have c11b0 : decide (t150 < 0) = false := decide_eq_false c11
 clear c11
 replace H := Option.bind_eq_some_iff.mp H
 obtain ⟨⟨t151, t152, t153, t154⟩, A190, H⟩ := H
 replace H : ((laws_toRec.f a1_0 a1_1 a1_2 a1_3).bind fun bt155 => ((spec_RecPair.f k t151 t152 t153 t154 bt155.1 bt155.2.1 bt155.2.2.1 bt155.2.2.2).bind fun bt159 => ((laws_toRec.f a0_0 a0_1 a0_2 a0_3).bind fun bt169 => ((laws_toRec.f a1_0 a1_1 a1_2 a1_3).bind fun bt173 => ((impl_RecPair.f k bt169.1 bt169.2.1 bt169.2.2.1 bt169.2.2.2 bt173.1 bt173.2.1 bt173.2.2.1 bt173.2.2.2).bind fun bt177 => ((laws_eqRec.f bt177.1 bt177.2.1 bt177.2.2.1 bt177.2.2.2.1 bt159.1 bt159.2.1 bt159.2.2.1 bt159.2.2.2.1).bind fun t187 => (if t187 = true then ((laws_eqRec.f bt177.2.2.2.2.1 bt177.2.2.2.2.2.1 bt177.2.2.2.2.2.2.1 bt177.2.2.2.2.2.2.2 bt159.2.2.2.2.1 bt159.2.2.2.2.2.1 bt159.2.2.2.2.2.2.1 bt159.2.2.2.2.2.2.2).bind fun t188 => (if t188 = true then (some true) else (some false))) else (some false)))))))) = some r := H
 have A19 := Aside0.mk A190
 clear A190
 replace H := Option.bind_eq_some_iff.mp H
 obtain ⟨⟨t155, t156, t157, t158⟩, A200, H⟩ := H
 replace H : ((spec_RecPair.f k t151 t152 t153 t154 t155 t156 t157 t158).bind fun bt159 => ((laws_toRec.f a0_0 a0_1 a0_2 a0_3).bind fun bt169 => ((laws_toRec.f a1_0 a1_1 a1_2 a1_3).bind fun bt173 => ((impl_RecPair.f k bt169.1 bt169.2.1 bt169.2.2.1 bt169.2.2.2 bt173.1 bt173.2.1 bt173.2.2.1 bt173.2.2.2).bind fun bt177 => ((laws_eqRec.f bt177.1 bt177.2.1 bt177.2.2.1 bt177.2.2.2.1 bt159.1 bt159.2.1 bt159.2.2.1 bt159.2.2.2.1).bind fun t187 => (if t187 = true then ((laws_eqRec.f bt177.2.2.2.2.1 bt177.2.2.2.2.2.1 bt177.2.2.2.2.2.2.1 bt177.2.2.2.2.2.2.2 bt159.2.2.2.2.1 bt159.2.2.2.2.2.1 bt159.2.2.2.2.2.2.1 bt159.2.2.2.2.2.2.2).bind fun t188 => (if t188 = true then (some true) else (some false))) else (some false))))))) = some r := H
 have A20 := Aside0.mk A200
 clear A200
 replace H := Option.bind_eq_some_iff.mp H
 obtain ⟨⟨t159, t160, t161, t162, t163, t164, t165, t166⟩, A210, H⟩ := H
 replace H : ((laws_toRec.f a0_0 a0_1 a0_2 a0_3).bind fun bt169 => ((laws_toRec.f a1_0 a1_1 a1_2 a1_3).bind fun bt173 => ((impl_RecPair.f k bt169.1 bt169.2.1 bt169.2.2.1 bt169.2.2.2 bt173.1 bt173.2.1 bt173.2.2.1 bt173.2.2.2).bind fun bt177 => ((laws_eqRec.f bt177.1 bt177.2.1 bt177.2.2.1 bt177.2.2.2.1 t159 t160 t161 t162).bind fun t187 => (if t187 = true then ((laws_eqRec.f bt177.2.2.2.2.1 bt177.2.2.2.2.2.1 bt177.2.2.2.2.2.2.1 bt177.2.2.2.2.2.2.2 t163 t164 t165 t166).bind fun t188 => (if t188 = true then (some true) else (some false))) else (some false)))))) = some r := H
 have A21 := Aside0.mk A210
 clear A210
 replace H := Option.bind_eq_some_iff.mp H
 obtain ⟨⟨t169, t170, t171, t172⟩, A220, H⟩ := H
 replace H : ((laws_toRec.f a1_0 a1_1 a1_2 a1_3).bind fun bt173 => ((impl_RecPair.f k t169 t170 t171 t172 bt173.1 bt173.2.1 bt173.2.2.1 bt173.2.2.2).bind fun bt177 => ((laws_eqRec.f bt177.1 bt177.2.1 bt177.2.2.1 bt177.2.2.2.1 t159 t160 t161 t162).bind fun t187 => (if t187 = true then ((laws_eqRec.f bt177.2.2.2.2.1 bt177.2.2.2.2.2.1 bt177.2.2.2.2.2.2.1 bt177.2.2.2.2.2.2.2 t163 t164 t165 t166).bind fun t188 => (if t188 = true then (some true) else (some false))) else (some false))))) = some r := H
 have A22 := Aside0.mk A220
 clear A220
 replace H := Option.bind_eq_some_iff.mp H
 obtain ⟨⟨t173, t174, t175, t176⟩, A230, H⟩ := H
 replace H : ((impl_RecPair.f k t169 t170 t171 t172 t173 t174 t175 t176).bind fun bt177 => ((laws_eqRec.f bt177.1 bt177.2.1 bt177.2.2.1 bt177.2.2.2.1 t159 t160 t161 t162).bind fun t187 => (if t187 = true then ((laws_eqRec.f bt177.2.2.2.2.1 bt177.2.2.2.2.2.1 bt177.2.2.2.2.2.2.1 bt177.2.2.2.2.2.2.2 t163 t164 t165 t166).bind fun t188 => (if t188 = true then (some true) else (some false))) else (some false)))) = some r := H
 have A23 := Aside0.mk A230
 clear A230
 replace H := Option.bind_eq_some_iff.mp H
 obtain ⟨⟨t177, t178, t179, t180, t181, t182, t183, t184⟩, A240, H⟩ := H
 replace H : ((laws_eqRec.f t177 t178 t179 t180 t159 t160 t161 t162).bind fun t187 => (if t187 = true then ((laws_eqRec.f t181 t182 t183 t184 t163 t164 t165 t166).bind fun t188 => (if t188 = true then (some true) else (some false))) else (some false))) = some r := H
 have A24 := Aside0.mk A240
 clear A240
 replace H := Option.bind_eq_some_iff.mp H
 obtain ⟨t187, A250, H⟩ := H
 replace H : (if t187 = true then ((laws_eqRec.f t181 t182 t183 t184 t163 t164 t165 t166).bind fun t188 => (if t188 = true then (some true) else (some false))) else (some false)) = some r := H
 have A25 := Aside0.mk A250
 clear A250
 by_cases c26 : t187 = true
 rotate_left
 ·
  replace c26 := Bool.eq_false_iff.mpr c26
  subst c26
  have H1 : (some false) = some r := by rw [if_neg (show ¬ (false = true) by decide)] at H; exact H
  clear H
  have H := H1
  clear H1
  exact absurd ((Option.some.inj H).trans HT_.out) (by decide)
 subst c26
 have H1 : ((laws_eqRec.f t181 t182 t183 t184 t163 t164 t165 t166).bind fun t188 => (if t188 = true then (some true) else (some false))) = some r := by rw [if_pos rfl] at H; exact H
 clear H
 have H := H1
 clear H1
 replace H := Option.bind_eq_some_iff.mp H
 obtain ⟨t188, A270, H⟩ := H
 replace H : (if t188 = true then (some true) else (some false)) = some r := H
 have A27 := Aside0.mk A270
 clear A270
 by_cases c28 : t188 = true
 rotate_left
 ·
  replace c28 := Bool.eq_false_iff.mpr c28
  subst c28
  have H1 : (some false) = some r := by rw [if_neg (show ¬ (false = true) by decide)] at H; exact H
  clear H
  have H := H1
  clear H1
  exact absurd ((Option.some.inj H).trans HT_.out) (by decide)
 subst c28
 have H1 : (some true) = some r := by rw [if_pos rfl] at H; exact H
 clear H
 have H := H1
 clear H1
 obtain rfl := Option.some.inj H
 go_enter Try.func7, Try.ntmps7
 try go_wp2_with (first | ((with_reducible refine gate_dst (N := 2) rfl ?_); refine box_event ?hg (N := 2) ?hd (cs := #[.bool a0_0, .int .i64 a0_1, .int .i64 a0_2, .string a0_3]) (t := 23) ?hr ?_; (case hd => rfl); (case hg => rfl); (case hr => first | (go_simp; done) | (go_simp; rfl)); intro gb147 hg w29 hbox hb; have n0_ := Aside0.mk (below_step (by repeat (first | (with_reducible first | exact HB.out | apply below_alloc | apply pw_below_drewN | apply below_drew1) | exact HB.out)) hb); have n1_ := Aside0.mk (hbox); have n2_ := Aside0.mk ((by rw [hg]; exact (below_size (by repeat (first | (with_reducible first | exact HB.out | apply below_alloc | apply pw_below_drewN | apply below_drew1) | exact HB.out))) : w.heap.size ≤ gb147)); have n3_ := Aside0.mk ((by rw [hg]; exact (below_size (by repeat (first | (with_reducible first | exact HB.out | apply below_alloc | apply pw_below_drewN | apply below_drew1) | exact HB.out))) : w.heap.size ≤ gb147)); clear HB; have HB := n0_; have BK147 := n1_; have GW147 := n2_; have GE147 := n3_; clear n0_ n1_ n2_ n3_; clear hb hbox hg) | ((with_reducible refine gate_dst (N := 3) rfl ?_); refine box_event ?hg (N := 3) ?hd (cs := #[.bool a1_0, .int .i64 a1_1, .int .i64 a1_2, .string a1_3]) (t := 23) ?hr ?_; (case hd => rfl); (case hg => rfl); (case hr => first | (go_simp; done) | (go_simp; rfl)); intro gb148 hg w30 hbox hb; have n0_ := Aside0.mk (blk_below (g := gb147) (o := .cells #[.bool a0_0, .int .i64 a0_1, .int .i64 a0_2, .string a0_3] 23 (0, 0)) (by (with_reducible repeat (first | refine blk_drewN ?_ _ | refine blk_drew ?_ | refine blk_alloc ?_ _)); exact BK147.out) hb); have n1_ := Aside0.mk (below_step (by repeat (first | (with_reducible first | exact HB.out | apply below_alloc | apply pw_below_drewN | apply below_drew1 | refine below_set ?_ GE147.out) | exact HB.out)) hb); have n2_ := Aside0.mk (hbox); have n3_ := Aside0.mk ((by rw [hg]; exact (below_size (by repeat (first | (with_reducible first | exact HB.out | apply below_alloc | apply pw_below_drewN | apply below_drew1 | refine below_set ?_ GE147.out) | exact HB.out))) : w.heap.size ≤ gb148)); have n4_ := Aside0.mk ((by rw [hg]; exact (below_size (by repeat (first | (with_reducible first | exact HB.out | apply below_alloc | apply pw_below_drewN | apply below_drew1 | refine below_set ?_ GE147.out) | exact HB.out))) : w.heap.size ≤ gb148)); have n5_ := Aside0.mk ((by rw [hg]; exact Nat.ne_of_lt (blk_lt (g := gb147) (o := .cells #[.bool a0_0, .int .i64 a0_1, .int .i64 a0_2, .string a0_3] 23 (0, 0)) (by (with_reducible repeat (first | refine blk_drewN ?_ _ | refine blk_drew ?_ | refine blk_alloc ?_ _)); exact BK147.out)) : gb147 ≠ gb148)); have n6_ := Aside0.mk ((by rw [hg]; exact Nat.ne_of_gt (blk_lt (g := gb147) (o := .cells #[.bool a0_0, .int .i64 a0_1, .int .i64 a0_2, .string a0_3] 23 (0, 0)) (by (with_reducible repeat (first | refine blk_drewN ?_ _ | refine blk_drew ?_ | refine blk_alloc ?_ _)); exact BK147.out)) : gb148 ≠ gb147)); clear BK147; clear HB; have BK147 := n0_; have HB := n1_; have BK148 := n2_; have GW148 := n3_; have GE148 := n4_; have NB147_148 := n5_; have NB148_147 := n6_; clear n0_ n1_ n2_ n3_ n4_ n5_ n6_; clear hb hbox hg; have hnb31 := NB147_148.out; have hnc31 := NB148_147.out; have hcz32_0 : w30.cell? ⟨gb147, 0, none⟩ = some (.bool a0_0) := b7_ BK147.out 0 rfl; have hcz32_1 : w30.cell? ⟨gb147, 1, none⟩ = some (.int .i64 a0_1) := b7_ BK147.out 1 rfl; have hcz32_2 : w30.cell? ⟨gb147, 2, none⟩ = some (.int .i64 a0_2) := b7_ BK147.out 2 rfl; have hcz32_3 : w30.cell? ⟨gb147, 3, none⟩ = some (.string a0_3) := b7_ BK147.out 3 rfl; have hfz32_0 := blk_frozen BK147.out 0; have hfz32_1 := blk_frozen BK147.out 1; have hfz32_2 := blk_frozen BK147.out 2; have hfz32_3 := blk_frozen BK147.out 3) | ((with_reducible refine gate_callee (f := 17) rfl ?_); refine goesL_ (some 12) rfl rfl Try.func17 (by kernel_rfl) rfl #[.agg #[.bool a0_0, .int .i64 a0_1, .int .i64 a0_2, .string a0_3], .int .i64 1048576] rfl (by (try simp only [List.map_toArray, List.map_cons, List.map_nil]); first | done | rfl | (simp only [List.length_drop, List.length_take]; rfl)) ?_; (with_reducible refine (laws_szRec.calls a0_0 a0_1 a0_2 a0_3 1048576 t149 _ A3.out).mono ?_); rintro e w33 ⟨rfl, hb⟩; refine ⟨_, rfl, ?_⟩; have n0_ := Aside0.mk (blk_below (g := gb147) (o := .cells #[.bool a0_0, .int .i64 a0_1, .int .i64 a0_2, .string a0_3] 23 (0, 0)) (by (with_reducible repeat (first | refine blk_drewN ?_ _ | refine blk_drew ?_ | refine blk_alloc ?_ _)); exact BK147.out) hb); have n1_ := Aside0.mk (blk_below (g := gb148) (o := .cells #[.bool a1_0, .int .i64 a1_1, .int .i64 a1_2, .string a1_3] 23 (0, 0)) (by (with_reducible repeat (first | refine blk_drewN ?_ _ | refine blk_drew ?_ | refine blk_alloc ?_ _)); exact BK148.out) hb); have n2_ := Aside0.mk (below_step (by repeat (first | (with_reducible first | exact HB.out | apply below_alloc | apply pw_below_drewN | apply below_drew1 | refine below_set ?_ GE147.out | refine below_set ?_ GE148.out) | exact HB.out)) hb); clear BK147; clear BK148; clear HB; have BK147 := n0_; have BK148 := n1_; have HB := n2_; clear n0_ n1_ n2_; (try clear hb); (try clear hb2); (try clear hk); (try clear hi); have hcz34_0 : w33.cell? ⟨gb148, 0, none⟩ = some (.bool a1_0) := b7_ BK148.out 0 rfl; have hcz34_1 : w33.cell? ⟨gb148, 1, none⟩ = some (.int .i64 a1_1) := b7_ BK148.out 1 rfl; have hcz34_2 : w33.cell? ⟨gb148, 2, none⟩ = some (.int .i64 a1_2) := b7_ BK148.out 2 rfl; have hcz34_3 : w33.cell? ⟨gb148, 3, none⟩ = some (.string a1_3) := b7_ BK148.out 3 rfl; have hfz34_0 := blk_frozen BK148.out 0; have hfz34_1 := blk_frozen BK148.out 1; have hfz34_2 := blk_frozen BK148.out 2; have hfz34_3 := blk_frozen BK148.out 3) | ((with_reducible refine gate_callee (f := 17) rfl ?_); refine goesL_ (some 17) rfl rfl Try.func17 (by kernel_rfl) rfl #[.agg #[.bool a1_0, .int .i64 a1_1, .int .i64 a1_2, .string a1_3], .int .i64 t149] rfl (by (try simp only [List.map_toArray, List.map_cons, List.map_nil]); first | done | rfl | (simp only [List.length_drop, List.length_take]; rfl)) ?_; (with_reducible refine (laws_szRec.calls a1_0 a1_1 a1_2 a1_3 t149 t150 _ A10.out).mono ?_); rintro e w35 ⟨rfl, hb⟩; refine ⟨_, rfl, ?_⟩; have n0_ := Aside0.mk (blk_below (g := gb147) (o := .cells #[.bool a0_0, .int .i64 a0_1, .int .i64 a0_2, .string a0_3] 23 (0, 0)) (by (with_reducible repeat (first | refine blk_drewN ?_ _ | refine blk_drew ?_ | refine blk_alloc ?_ _)); exact BK147.out) hb); have n1_ := Aside0.mk (blk_below (g := gb148) (o := .cells #[.bool a1_0, .int .i64 a1_1, .int .i64 a1_2, .string a1_3] 23 (0, 0)) (by (with_reducible repeat (first | refine blk_drewN ?_ _ | refine blk_drew ?_ | refine blk_alloc ?_ _)); exact BK148.out) hb); have n2_ := Aside0.mk (below_step (by repeat (first | (with_reducible first | exact HB.out | apply below_alloc | apply pw_below_drewN | apply below_drew1 | refine below_set ?_ GE147.out | refine below_set ?_ GE148.out) | exact HB.out)) hb); clear BK147; clear BK148; clear HB; have BK147 := n0_; have BK148 := n1_; have HB := n2_; clear n0_ n1_ n2_; (try clear hb); (try clear hb2); (try clear hk); (try clear hi)))
 replace BK147 := Aside0.mk (blk_drew BK147.out)
 replace BK148 := Aside0.mk (blk_drew BK148.out)
 replace HB := Aside0.mk (below_drew1 HB.out)
 refine start_ (n := 12) (S := fun w' => w'.cell? ⟨gb147, 0, none⟩ = some (.bool a0_0) ∧ w'.cell? ⟨gb147, 1, none⟩ = some (.int .i64 a0_1) ∧ w'.cell? ⟨gb147, 2, none⟩ = some (.int .i64 a0_2) ∧ w'.cell? ⟨gb147, 3, none⟩ = some (.string a0_3) ∧ w'.cell? ⟨gb148, 0, none⟩ = some (.bool a1_0) ∧ w'.cell? ⟨gb148, 1, none⟩ = some (.int .i64 a1_1) ∧ w'.cell? ⟨gb148, 2, none⟩ = some (.int .i64 a1_2) ∧ w'.cell? ⟨gb148, 3, none⟩ = some (.string a1_3)) (ds := []) #[false, false, false, false, false, false, false, false, false, false, false, false] (by kernel_rfl) rfl rfl ⟨b7_ BK147.out 0 rfl, b7_ BK147.out 1 rfl, b7_ BK147.out 2 rfl, b7_ BK147.out 3 rfl, b7_ BK148.out 0 rfl, b7_ BK148.out 1 rfl, b7_ BK148.out 2 rfl, b7_ BK148.out 3 rfl⟩ (fun hHeld => ?_); refine with_tabW laws_FnExactRecPair.tab8 laws_FnExactRecPair.bits8 (fun HT_ HW_ => ?_)
 generalize w35.drew = w36 at BK147 BK148 HB hHeld ⊢
 refine take_ (i := 0) (N := some 21) (v := ?_) (a' := ?_) #[true, false, false, false, false, false, false, false, false, false, false, false] rfl rfl (take_ofW HT_.out HW_.out (by kernel_rfl)) (fun _ _ _ h => h) (Or.inl ⟨by rfl, ?_⟩) hHeld ?_ ?_
 rotate_left
 ·
  rintro w' ⟨s0, s1, s2, s3, s4, s5, s6, s7⟩
  go_simp
  with_reducible rfl
 rotate_left
 ·
  simp only [Act.put, List.setIfInBounds_toArray, List.set_cons_zero, List.set_cons_succ, i64_w, i32_w]
  rfl
 refine take_ (i := 2) (N := some 23) (v := ?_) (a' := ?_) #[true, false, true, false, false, false, false, false, false, false, false, false] rfl rfl (take_ofW HT_.out HW_.out (by kernel_rfl)) (fun _ _ _ h => h) (Or.inl ⟨by rfl, ?_⟩) hHeld ?_ ?_
 rotate_left
 ·
  rintro w' ⟨s0, s1, s2, s3, s4, s5, s6, s7⟩
  go_simp
  with_reducible rfl
 rotate_left
 ·
  simp only [Act.put, List.setIfInBounds_toArray, List.set_cons_zero, List.set_cons_succ, i64_w, i32_w]
  rfl
 refine join_ (σ := Nat × Nat) 2 #[true, true, true, true, true, true, true, true, true, true, false, false] (fun s_ => [(22, .agg #[.bool t151, .int .i64 t152, .int .i64 t153, .string t154]), (24, .agg #[.bool t155, .int .i64 t156, .int .i64 t157, .string t158]), (25, .tuple #[.agg #[.bool t159, .int .i64 t160, .int .i64 t161, .string t162], .agg #[.bool t163, .int .i64 t164, .int .i64 t165, .string t166]]), (6, .pointer (some ⟨s_.1, 0, none⟩)), (7, .pointer (some ⟨s_.2, 0, none⟩)), (20, .tuple #[.agg #[.bool t159, .int .i64 t160, .int .i64 t161, .string t162], .agg #[.bool t163, .int .i64 t164, .int .i64 t165, .string t166]]), (26, .agg #[.bool t159, .int .i64 t160, .int .i64 t161, .string t162]), (27, .agg #[.bool t163, .int .i64 t164, .int .i64 t165, .string t166])]) (fun s_ w' => (w'.cell? ⟨gb147, 0, none⟩ = some (.bool a0_0) ∧ w'.cell? ⟨gb147, 1, none⟩ = some (.int .i64 a0_1) ∧ w'.cell? ⟨gb147, 2, none⟩ = some (.int .i64 a0_2) ∧ w'.cell? ⟨gb147, 3, none⟩ = some (.string a0_3) ∧ w'.cell? ⟨gb148, 0, none⟩ = some (.bool a1_0) ∧ w'.cell? ⟨gb148, 1, none⟩ = some (.int .i64 a1_1) ∧ w'.cell? ⟨gb148, 2, none⟩ = some (.int .i64 a1_2) ∧ w'.cell? ⟨gb148, 3, none⟩ = some (.string a1_3)) ∧ (w'.heap[gb147]? = some (.cells #[.bool a0_0, .int .i64 a0_1, .int .i64 a0_2, .string a0_3] 23 (0, 0))) ∧ (w'.heap[gb148]? = some (.cells #[.bool a1_0, .int .i64 a1_1, .int .i64 a1_2, .string a1_3] 23 (0, 0))) ∧ (w'.heap[s_.1]? = some (.cells #[.bool false, .int .i64 0, .int .i64 0, .string (⟨#[]⟩ : ByteArray)] 26 (0, 0))) ∧ (w'.heap[s_.2]? = some (.cells #[.bool false, .int .i64 0, .int .i64 0, .string (⟨#[]⟩ : ByteArray)] 26 (0, 0))) ∧ (w.heap.size ≤ s_.1) ∧ (w.heap.size ≤ s_.1) ∧ (gb147 ≠ s_.1) ∧ (s_.1 ≠ gb147) ∧ (gb148 ≠ s_.1) ∧ (s_.1 ≠ gb148) ∧ (s_.2 ≠ s_.1) ∧ (s_.1 ≠ s_.2) ∧ (w.heap.size ≤ s_.2) ∧ (w.heap.size ≤ s_.2) ∧ (gb147 ≠ s_.2) ∧ (s_.2 ≠ gb147) ∧ (gb148 ≠ s_.2) ∧ (s_.2 ≠ gb148) ∧ (Below w.heap.size w w')) ?_ ?_
 rotate_left
 ·
  intro hJ1_3_4_8_9
  refine join_ (σ := Nat) 3 #[true, true, true, true, true, true, true, true, true, false, false, false] (fun s_ => [(22, .agg #[.bool t151, .int .i64 t152, .int .i64 t153, .string t154]), (24, .agg #[.bool t155, .int .i64 t156, .int .i64 t157, .string t158]), (25, .tuple #[.agg #[.bool t159, .int .i64 t160, .int .i64 t161, .string t162], .agg #[.bool t163, .int .i64 t164, .int .i64 t165, .string t166]]), (6, .pointer (some ⟨s_, 0, none⟩)), (20, .tuple #[.agg #[.bool t159, .int .i64 t160, .int .i64 t161, .string t162], .agg #[.bool t163, .int .i64 t164, .int .i64 t165, .string t166]]), (26, .agg #[.bool t159, .int .i64 t160, .int .i64 t161, .string t162]), (27, .agg #[.bool t163, .int .i64 t164, .int .i64 t165, .string t166])]) (fun s_ w' => (w'.cell? ⟨gb147, 0, none⟩ = some (.bool a0_0) ∧ w'.cell? ⟨gb147, 1, none⟩ = some (.int .i64 a0_1) ∧ w'.cell? ⟨gb147, 2, none⟩ = some (.int .i64 a0_2) ∧ w'.cell? ⟨gb147, 3, none⟩ = some (.string a0_3) ∧ w'.cell? ⟨gb148, 0, none⟩ = some (.bool a1_0) ∧ w'.cell? ⟨gb148, 1, none⟩ = some (.int .i64 a1_1) ∧ w'.cell? ⟨gb148, 2, none⟩ = some (.int .i64 a1_2) ∧ w'.cell? ⟨gb148, 3, none⟩ = some (.string a1_3)) ∧ (w'.heap[gb147]? = some (.cells #[.bool a0_0, .int .i64 a0_1, .int .i64 a0_2, .string a0_3] 23 (0, 0))) ∧ (w'.heap[gb148]? = some (.cells #[.bool a1_0, .int .i64 a1_1, .int .i64 a1_2, .string a1_3] 23 (0, 0))) ∧ (w'.heap[s_]? = some (.cells #[.bool false, .int .i64 0, .int .i64 0, .string (⟨#[]⟩ : ByteArray)] 26 (0, 0))) ∧ (w.heap.size ≤ s_) ∧ (w.heap.size ≤ s_) ∧ (gb147 ≠ s_) ∧ (s_ ≠ gb147) ∧ (gb148 ≠ s_) ∧ (s_ ≠ gb148) ∧ (Below w.heap.size w w')) ?_ ?_
  ·
   skip
   rintro gb167 w41 ⟨hS_, h0_, h1_, h2_, h3_, h4_, h5_, h6_, h7_, h8_, h9_⟩
   have BK167 := Aside0.mk h2_
   have GW167 := Aside0.mk h3_
   have GE167 := Aside0.mk h4_
   have NB147_167 := Aside0.mk h5_
   have NB167_147 := Aside0.mk h6_
   have NB148_167 := Aside0.mk h7_
   have NB167_148 := Aside0.mk h8_
   replace BK147 := Aside0.mk h0_
   replace BK148 := Aside0.mk h1_
   replace HB := Aside0.mk h9_
   clear h0_ h1_ h2_ h3_ h4_ h5_ h6_ h7_ h8_ h9_
   have hHeld : w41.cell? ⟨gb147, 0, none⟩ = some (.bool a0_0) ∧ w41.cell? ⟨gb147, 1, none⟩ = some (.int .i64 a0_1) ∧ w41.cell? ⟨gb147, 2, none⟩ = some (.int .i64 a0_2) ∧ w41.cell? ⟨gb147, 3, none⟩ = some (.string a0_3) ∧ w41.cell? ⟨gb148, 0, none⟩ = some (.bool a1_0) ∧ w41.cell? ⟨gb148, 1, none⟩ = some (.int .i64 a1_1) ∧ w41.cell? ⟨gb148, 2, none⟩ = some (.int .i64 a1_2) ∧ w41.cell? ⟨gb148, 3, none⟩ = some (.string a1_3) := hS_
   refine norm_ (a' := ?_) ?_ ?_
   rotate_left
   ·
    simp only [putAll, Act.put, List.setIfInBounds_toArray, List.set_cons_zero, List.set_cons_succ]
    rfl
   refine one_ (i := 9) (N := some 7) #[true, true, true, true, true, true, true, true, true, true, false, false] rfl rfl (one_of HT_.out (by kernel_rfl)) (by decide) (fun K hK => ?_)
   refine box_step ?hg (N := 7) ?hd (cs := #[.bool false, .int .i64 0, .int .i64 0, .string (⟨#[]⟩ : ByteArray)]) (t := 26) ?hr ?_; (case hd => rfl); (case hg => rfl); (case hr => first | (go_simp; done) | (go_simp; rfl))
   intro gb168 hg w42 hbox hb
   have BK168 := Aside0.mk (hbox)
   have GW168 := Aside0.mk ((by rw [hg]; exact (below_size HB.out) : w.heap.size ≤ gb168))
   have GE168 := Aside0.mk ((by rw [hg]; exact (below_size HB.out) : w.heap.size ≤ gb168))
   have NB147_168 := Aside0.mk ((by rw [hg]; exact Nat.ne_of_lt (blk_lt BK147.out) : gb147 ≠ gb168))
   have NB168_147 := Aside0.mk ((by rw [hg]; exact Nat.ne_of_gt (blk_lt BK147.out) : gb168 ≠ gb147))
   have NB148_168 := Aside0.mk ((by rw [hg]; exact Nat.ne_of_lt (blk_lt BK148.out) : gb148 ≠ gb168))
   have NB168_148 := Aside0.mk ((by rw [hg]; exact Nat.ne_of_gt (blk_lt BK148.out) : gb168 ≠ gb148))
   have NB167_168 := Aside0.mk ((by rw [hg]; exact Nat.ne_of_lt (blk_lt BK167.out) : gb167 ≠ gb168))
   have NB168_167 := Aside0.mk ((by rw [hg]; exact Nat.ne_of_gt (blk_lt BK167.out) : gb168 ≠ gb167))
   replace BK147 := Aside0.mk (blk_below BK147.out hb)
   replace BK148 := Aside0.mk (blk_below BK148.out hb)
   replace BK167 := Aside0.mk (blk_below BK167.out hb)
   replace HB := Aside0.mk (below_step HB.out hb)
   clear hb hbox hg
   refine hK.out _ _ ⟨b7_ BK147.out 0 rfl, b7_ BK147.out 1 rfl, b7_ BK147.out 2 rfl, b7_ BK147.out 3 rfl, b7_ BK148.out 0 rfl, b7_ BK148.out 1 rfl, b7_ BK148.out 2 rfl, b7_ BK148.out 3 rfl⟩ (fun hHeld => ?_)
   clear hK K
   refine norm_ (a' := ?_) ?_ ?_
   rotate_left
   ·
    show Act.put _ (some 7) _ = _
    simp only [Act.put, List.setIfInBounds_toArray, List.set_cons_zero, List.set_cons_succ, i64_w, i32_w]
    rfl
   exact norm_ (by simp only [putAll, Act.put, List.setIfInBounds_toArray, List.set_cons_zero, List.set_cons_succ] <;> rfl) (hJ1_3_4_8_9 (gb167, gb168) _ ⟨hHeld, BK147.out, BK148.out, BK167.out, BK168.out, GW167.out, GE167.out, NB147_167.out, NB167_147.out, NB148_167.out, NB167_148.out, NB168_167.out, NB167_168.out, GW168.out, GE168.out, NB147_168.out, NB168_147.out, NB148_168.out, NB168_148.out, HB.out⟩)
  intro hJ1_3_4_8
  refine join_ (σ := Nat) 3 #[true, true, true, true, true, true, true, true, false, true, false, false] (fun s_ => [(22, .agg #[.bool t151, .int .i64 t152, .int .i64 t153, .string t154]), (24, .agg #[.bool t155, .int .i64 t156, .int .i64 t157, .string t158]), (25, .tuple #[.agg #[.bool t159, .int .i64 t160, .int .i64 t161, .string t162], .agg #[.bool t163, .int .i64 t164, .int .i64 t165, .string t166]]), (7, .pointer (some ⟨s_, 0, none⟩)), (20, .tuple #[.agg #[.bool t159, .int .i64 t160, .int .i64 t161, .string t162], .agg #[.bool t163, .int .i64 t164, .int .i64 t165, .string t166]]), (26, .agg #[.bool t159, .int .i64 t160, .int .i64 t161, .string t162]), (27, .agg #[.bool t163, .int .i64 t164, .int .i64 t165, .string t166])]) (fun s_ w' => (w'.cell? ⟨gb147, 0, none⟩ = some (.bool a0_0) ∧ w'.cell? ⟨gb147, 1, none⟩ = some (.int .i64 a0_1) ∧ w'.cell? ⟨gb147, 2, none⟩ = some (.int .i64 a0_2) ∧ w'.cell? ⟨gb147, 3, none⟩ = some (.string a0_3) ∧ w'.cell? ⟨gb148, 0, none⟩ = some (.bool a1_0) ∧ w'.cell? ⟨gb148, 1, none⟩ = some (.int .i64 a1_1) ∧ w'.cell? ⟨gb148, 2, none⟩ = some (.int .i64 a1_2) ∧ w'.cell? ⟨gb148, 3, none⟩ = some (.string a1_3)) ∧ (w'.heap[gb147]? = some (.cells #[.bool a0_0, .int .i64 a0_1, .int .i64 a0_2, .string a0_3] 23 (0, 0))) ∧ (w'.heap[gb148]? = some (.cells #[.bool a1_0, .int .i64 a1_1, .int .i64 a1_2, .string a1_3] 23 (0, 0))) ∧ (w'.heap[s_]? = some (.cells #[.bool false, .int .i64 0, .int .i64 0, .string (⟨#[]⟩ : ByteArray)] 26 (0, 0))) ∧ (w.heap.size ≤ s_) ∧ (w.heap.size ≤ s_) ∧ (gb147 ≠ s_) ∧ (s_ ≠ gb147) ∧ (gb148 ≠ s_) ∧ (s_ ≠ gb148) ∧ (Below w.heap.size w w')) ?_ ?_
  ·
   skip
   rintro gb168 w41 ⟨hS_, h0_, h1_, h2_, h3_, h4_, h5_, h6_, h7_, h8_, h9_⟩
   have BK168 := Aside0.mk h2_
   have GW168 := Aside0.mk h3_
   have GE168 := Aside0.mk h4_
   have NB147_168 := Aside0.mk h5_
   have NB168_147 := Aside0.mk h6_
   have NB148_168 := Aside0.mk h7_
   have NB168_148 := Aside0.mk h8_
   replace BK147 := Aside0.mk h0_
   replace BK148 := Aside0.mk h1_
   replace HB := Aside0.mk h9_
   clear h0_ h1_ h2_ h3_ h4_ h5_ h6_ h7_ h8_ h9_
   have hHeld : w41.cell? ⟨gb147, 0, none⟩ = some (.bool a0_0) ∧ w41.cell? ⟨gb147, 1, none⟩ = some (.int .i64 a0_1) ∧ w41.cell? ⟨gb147, 2, none⟩ = some (.int .i64 a0_2) ∧ w41.cell? ⟨gb147, 3, none⟩ = some (.string a0_3) ∧ w41.cell? ⟨gb148, 0, none⟩ = some (.bool a1_0) ∧ w41.cell? ⟨gb148, 1, none⟩ = some (.int .i64 a1_1) ∧ w41.cell? ⟨gb148, 2, none⟩ = some (.int .i64 a1_2) ∧ w41.cell? ⟨gb148, 3, none⟩ = some (.string a1_3) := hS_
   refine norm_ (a' := ?_) ?_ ?_
   rotate_left
   ·
    simp only [putAll, Act.put, List.setIfInBounds_toArray, List.set_cons_zero, List.set_cons_succ]
    rfl
   refine one_ (i := 8) (N := some 6) #[true, true, true, true, true, true, true, true, true, true, false, false] rfl rfl (one_of HT_.out (by kernel_rfl)) (by decide) (fun K hK => ?_)
   refine box_step ?hg (N := 6) ?hd (cs := #[.bool false, .int .i64 0, .int .i64 0, .string (⟨#[]⟩ : ByteArray)]) (t := 26) ?hr ?_; (case hd => rfl); (case hg => rfl); (case hr => first | (go_simp; done) | (go_simp; rfl))
   intro gb167 hg w42 hbox hb
   have BK167 := Aside0.mk (hbox)
   have GW167 := Aside0.mk ((by rw [hg]; exact (below_size HB.out) : w.heap.size ≤ gb167))
   have GE167 := Aside0.mk ((by rw [hg]; exact (below_size HB.out) : w.heap.size ≤ gb167))
   have NB147_167 := Aside0.mk ((by rw [hg]; exact Nat.ne_of_lt (blk_lt BK147.out) : gb147 ≠ gb167))
   have NB167_147 := Aside0.mk ((by rw [hg]; exact Nat.ne_of_gt (blk_lt BK147.out) : gb167 ≠ gb147))
   have NB148_167 := Aside0.mk ((by rw [hg]; exact Nat.ne_of_lt (blk_lt BK148.out) : gb148 ≠ gb167))
   have NB167_148 := Aside0.mk ((by rw [hg]; exact Nat.ne_of_gt (blk_lt BK148.out) : gb167 ≠ gb148))
   have NB168_167 := Aside0.mk ((by rw [hg]; exact Nat.ne_of_lt (blk_lt BK168.out) : gb168 ≠ gb167))
   have NB167_168 := Aside0.mk ((by rw [hg]; exact Nat.ne_of_gt (blk_lt BK168.out) : gb167 ≠ gb168))
   replace BK147 := Aside0.mk (blk_below BK147.out hb)
   replace BK148 := Aside0.mk (blk_below BK148.out hb)
   replace BK168 := Aside0.mk (blk_below BK168.out hb)
   replace HB := Aside0.mk (below_step HB.out hb)
   clear hb hbox hg
   refine hK.out _ _ ⟨b7_ BK147.out 0 rfl, b7_ BK147.out 1 rfl, b7_ BK147.out 2 rfl, b7_ BK147.out 3 rfl, b7_ BK148.out 0 rfl, b7_ BK148.out 1 rfl, b7_ BK148.out 2 rfl, b7_ BK148.out 3 rfl⟩ (fun hHeld => ?_)
   clear hK K
   refine norm_ (a' := ?_) ?_ ?_
   rotate_left
   ·
    show Act.put _ (some 6) _ = _
    simp only [Act.put, List.setIfInBounds_toArray, List.set_cons_zero, List.set_cons_succ, i64_w, i32_w]
    rfl
   exact norm_ (by simp only [putAll, Act.put, List.setIfInBounds_toArray, List.set_cons_zero, List.set_cons_succ] <;> rfl) (hJ1_3_4_8_9 (gb167, gb168) _ ⟨hHeld, BK147.out, BK148.out, BK167.out, BK168.out, GW167.out, GE167.out, NB147_167.out, NB167_147.out, NB148_167.out, NB167_148.out, NB168_167.out, NB167_168.out, GW168.out, GE168.out, NB147_168.out, NB168_147.out, NB148_168.out, NB168_148.out, HB.out⟩)
  intro hJ1_3_4_9
  refine join_ (σ := Nat × Nat) 6 #[true, true, true, true, false, false, false, false, true, true, false, false] (fun s_ => [(22, .agg #[.bool t151, .int .i64 t152, .int .i64 t153, .string t154]), (24, .agg #[.bool t155, .int .i64 t156, .int .i64 t157, .string t158]), (6, .pointer (some ⟨s_.1, 0, none⟩)), (7, .pointer (some ⟨s_.2, 0, none⟩))]) (fun s_ w' => (w'.cell? ⟨gb147, 0, none⟩ = some (.bool a0_0) ∧ w'.cell? ⟨gb147, 1, none⟩ = some (.int .i64 a0_1) ∧ w'.cell? ⟨gb147, 2, none⟩ = some (.int .i64 a0_2) ∧ w'.cell? ⟨gb147, 3, none⟩ = some (.string a0_3) ∧ w'.cell? ⟨gb148, 0, none⟩ = some (.bool a1_0) ∧ w'.cell? ⟨gb148, 1, none⟩ = some (.int .i64 a1_1) ∧ w'.cell? ⟨gb148, 2, none⟩ = some (.int .i64 a1_2) ∧ w'.cell? ⟨gb148, 3, none⟩ = some (.string a1_3)) ∧ (w'.heap[gb147]? = some (.cells #[.bool a0_0, .int .i64 a0_1, .int .i64 a0_2, .string a0_3] 23 (0, 0))) ∧ (w'.heap[gb148]? = some (.cells #[.bool a1_0, .int .i64 a1_1, .int .i64 a1_2, .string a1_3] 23 (0, 0))) ∧ (w'.heap[s_.1]? = some (.cells #[.bool false, .int .i64 0, .int .i64 0, .string (⟨#[]⟩ : ByteArray)] 26 (0, 0))) ∧ (w'.heap[s_.2]? = some (.cells #[.bool false, .int .i64 0, .int .i64 0, .string (⟨#[]⟩ : ByteArray)] 26 (0, 0))) ∧ (w.heap.size ≤ s_.1) ∧ (w.heap.size ≤ s_.1) ∧ (gb147 ≠ s_.1) ∧ (s_.1 ≠ gb147) ∧ (gb148 ≠ s_.1) ∧ (s_.1 ≠ gb148) ∧ (s_.2 ≠ s_.1) ∧ (s_.1 ≠ s_.2) ∧ (w.heap.size ≤ s_.2) ∧ (w.heap.size ≤ s_.2) ∧ (gb147 ≠ s_.2) ∧ (s_.2 ≠ gb147) ∧ (gb148 ≠ s_.2) ∧ (s_.2 ≠ gb148) ∧ (Below w.heap.size w w')) ?_ ?_
  ·
   skip
   rintro ⟨gb167, gb168⟩ w41 ⟨hS_, h0_, h1_, h2_, h3_, h4_, h5_, h6_, h7_, h8_, h9_, h10_, h11_, h12_, h13_, h14_, h15_, h16_, h17_, h18_⟩
   have BK167 := Aside0.mk h2_
   have BK168 := Aside0.mk h3_
   have GW167 := Aside0.mk h4_
   have GE167 := Aside0.mk h5_
   have NB147_167 := Aside0.mk h6_
   have NB167_147 := Aside0.mk h7_
   have NB148_167 := Aside0.mk h8_
   have NB167_148 := Aside0.mk h9_
   have NB168_167 := Aside0.mk h10_
   have NB167_168 := Aside0.mk h11_
   have GW168 := Aside0.mk h12_
   have GE168 := Aside0.mk h13_
   have NB147_168 := Aside0.mk h14_
   have NB168_147 := Aside0.mk h15_
   have NB148_168 := Aside0.mk h16_
   have NB168_148 := Aside0.mk h17_
   replace BK147 := Aside0.mk h0_
   replace BK148 := Aside0.mk h1_
   replace HB := Aside0.mk h18_
   clear h0_ h1_ h2_ h3_ h4_ h5_ h6_ h7_ h8_ h9_ h10_ h11_ h12_ h13_ h14_ h15_ h16_ h17_ h18_
   have hHeld : w41.cell? ⟨gb147, 0, none⟩ = some (.bool a0_0) ∧ w41.cell? ⟨gb147, 1, none⟩ = some (.int .i64 a0_1) ∧ w41.cell? ⟨gb147, 2, none⟩ = some (.int .i64 a0_2) ∧ w41.cell? ⟨gb147, 3, none⟩ = some (.string a0_3) ∧ w41.cell? ⟨gb148, 0, none⟩ = some (.bool a1_0) ∧ w41.cell? ⟨gb148, 1, none⟩ = some (.int .i64 a1_1) ∧ w41.cell? ⟨gb148, 2, none⟩ = some (.int .i64 a1_2) ∧ w41.cell? ⟨gb148, 3, none⟩ = some (.string a1_3) := hS_
   refine norm_ (a' := ?_) ?_ ?_
   rotate_left
   ·
    simp only [putAll, Act.put, List.setIfInBounds_toArray, List.set_cons_zero, List.set_cons_succ]
    rfl
   refine one_ (i := 4) (N := some 25) #[true, true, true, true, true, false, false, false, true, true, false, false] rfl rfl (one_of HT_.out (by kernel_rfl)) (by decide) (fun K hK => ?_)
   refine goes_ Try.func33 (by kernel_rfl) rfl #[.agg #[.bool t151, .int .i64 t152, .int .i64 t153, .string t154], .agg #[.bool t155, .int .i64 t156, .int .i64 t157, .string t158]] (by rfl) rfl rfl (by (try simp only [List.map_toArray, List.map_cons, List.map_nil]); first | done | rfl | (simp only [List.length_drop, List.length_take]; rfl)) ?_
   with_reducible refine (spec_RecPair.calls k t151 t152 t153 t154 t155 t156 t157 t158 t159 t160 t161 t162 t163 t164 t165 t166 _ A21.out).mono ?_
   rintro e w42 ⟨rfl, hb⟩
   refine ⟨_, rfl, ?_⟩
   replace BK147 := Aside0.mk (blk_below BK147.out hb)
   replace BK148 := Aside0.mk (blk_below BK148.out hb)
   replace BK167 := Aside0.mk (blk_below BK167.out hb)
   replace BK168 := Aside0.mk (blk_below BK168.out hb)
   replace HB := Aside0.mk (below_step HB.out hb)
   (try clear hb)
   (try clear hb2)
   (try clear hk)
   (try clear hi)
   refine hK.out _ _ ⟨b7_ BK147.out 0 rfl, b7_ BK147.out 1 rfl, b7_ BK147.out 2 rfl, b7_ BK147.out 3 rfl, b7_ BK148.out 0 rfl, b7_ BK148.out 1 rfl, b7_ BK148.out 2 rfl, b7_ BK148.out 3 rfl⟩ (fun hHeld => ?_)
   clear hK K
   refine norm_ (a' := ?_) ?_ ?_
   rotate_left
   ·
    show Act.put _ (some 25) _ = _
    simp only [Act.put, List.setIfInBounds_toArray, List.set_cons_zero, List.set_cons_succ, i64_w, i32_w]
    rfl
   refine pure_ (i := 5) (N := some 20) (v := ?_) (a' := ?_) #[true, true, true, true, true, true, false, false, true, true, false, false] rfl rfl (any_of HT_.out (by kernel_rfl)) (fun _ _ _ h => h) (Or.inl ⟨by rfl, ?_⟩) ?_ ?_
   rotate_left
   ·
    intro w'
    go_simp
    with_reducible rfl
   rotate_left
   ·
    simp only [Act.put, List.setIfInBounds_toArray, List.set_cons_zero, List.set_cons_succ, i64_w, i32_w]
    rfl
   refine pure_ (i := 6) (N := some 26) (v := ?_) (a' := ?_) #[true, true, true, true, true, true, true, false, true, true, false, false] rfl rfl (any_of HT_.out (by kernel_rfl)) (fun _ _ _ h => h) (Or.inl ⟨by rfl, ?_⟩) ?_ ?_
   rotate_left
   ·
    intro w'
    go_simp
    with_reducible rfl
   rotate_left
   ·
    simp only [Act.put, List.setIfInBounds_toArray, List.set_cons_zero, List.set_cons_succ, i64_w, i32_w]
    rfl
   refine pure_ (i := 7) (N := some 27) (v := ?_) (a' := ?_) #[true, true, true, true, true, true, true, true, true, true, false, false] rfl rfl (any_of HT_.out (by kernel_rfl)) (fun _ _ _ h => h) (Or.inl ⟨by rfl, ?_⟩) ?_ ?_
   rotate_left
   ·
    intro w'
    go_simp
    with_reducible rfl
   rotate_left
   ·
    simp only [Act.put, List.setIfInBounds_toArray, List.set_cons_zero, List.set_cons_succ, i64_w, i32_w]
    rfl
   exact norm_ (by simp only [putAll, Act.put, List.setIfInBounds_toArray, List.set_cons_zero, List.set_cons_succ] <;> rfl) (hJ1_3_4_8_9 (gb167, gb168) _ ⟨hHeld, BK147.out, BK148.out, BK167.out, BK168.out, GW167.out, GE167.out, NB147_167.out, NB167_147.out, NB148_167.out, NB167_148.out, NB168_167.out, NB167_168.out, GW168.out, GE168.out, NB147_168.out, NB168_147.out, NB148_168.out, NB168_148.out, HB.out⟩)
  intro hJ1_3_8_9
  refine join_ (σ := Unit) 4 #[true, true, true, true, true, true, true, true, false, false, false, false] (fun s_ => [(22, .agg #[.bool t151, .int .i64 t152, .int .i64 t153, .string t154]), (24, .agg #[.bool t155, .int .i64 t156, .int .i64 t157, .string t158]), (25, .tuple #[.agg #[.bool t159, .int .i64 t160, .int .i64 t161, .string t162], .agg #[.bool t163, .int .i64 t164, .int .i64 t165, .string t166]]), (20, .tuple #[.agg #[.bool t159, .int .i64 t160, .int .i64 t161, .string t162], .agg #[.bool t163, .int .i64 t164, .int .i64 t165, .string t166]]), (26, .agg #[.bool t159, .int .i64 t160, .int .i64 t161, .string t162]), (27, .agg #[.bool t163, .int .i64 t164, .int .i64 t165, .string t166])]) (fun s_ w' => (w'.cell? ⟨gb147, 0, none⟩ = some (.bool a0_0) ∧ w'.cell? ⟨gb147, 1, none⟩ = some (.int .i64 a0_1) ∧ w'.cell? ⟨gb147, 2, none⟩ = some (.int .i64 a0_2) ∧ w'.cell? ⟨gb147, 3, none⟩ = some (.string a0_3) ∧ w'.cell? ⟨gb148, 0, none⟩ = some (.bool a1_0) ∧ w'.cell? ⟨gb148, 1, none⟩ = some (.int .i64 a1_1) ∧ w'.cell? ⟨gb148, 2, none⟩ = some (.int .i64 a1_2) ∧ w'.cell? ⟨gb148, 3, none⟩ = some (.string a1_3)) ∧ (w'.heap[gb147]? = some (.cells #[.bool a0_0, .int .i64 a0_1, .int .i64 a0_2, .string a0_3] 23 (0, 0))) ∧ (w'.heap[gb148]? = some (.cells #[.bool a1_0, .int .i64 a1_1, .int .i64 a1_2, .string a1_3] 23 (0, 0))) ∧ (Below w.heap.size w w')) ?_ ?_
  ·
   skip
   rintro _ w40 ⟨hS_, h0_, h1_, h2_⟩
   replace BK147 := Aside0.mk h0_
   replace BK148 := Aside0.mk h1_
   replace HB := Aside0.mk h2_
   clear h0_ h1_ h2_
   have hHeld : w40.cell? ⟨gb147, 0, none⟩ = some (.bool a0_0) ∧ w40.cell? ⟨gb147, 1, none⟩ = some (.int .i64 a0_1) ∧ w40.cell? ⟨gb147, 2, none⟩ = some (.int .i64 a0_2) ∧ w40.cell? ⟨gb147, 3, none⟩ = some (.string a0_3) ∧ w40.cell? ⟨gb148, 0, none⟩ = some (.bool a1_0) ∧ w40.cell? ⟨gb148, 1, none⟩ = some (.int .i64 a1_1) ∧ w40.cell? ⟨gb148, 2, none⟩ = some (.int .i64 a1_2) ∧ w40.cell? ⟨gb148, 3, none⟩ = some (.string a1_3) := hS_
   refine norm_ (a' := ?_) ?_ ?_
   rotate_left
   ·
    simp only [putAll, Act.put, List.setIfInBounds_toArray, List.set_cons_zero, List.set_cons_succ]
    rfl
   refine two_ (i := 8) (j := 9) (Ni := some 6) (Nj := some 7) #[true, true, true, true, true, true, true, true, true, false, false, false] #[true, true, true, true, true, true, true, true, false, true, false, false] rfl rfl rfl rfl (two_of HT_.out (by kernel_rfl)) (by decide) (by decide) (fun K hK => ?_) (fun K hK => ?_)
   ·
    skip
    refine box_step ?hg (N := 6) ?hd (cs := #[.bool false, .int .i64 0, .int .i64 0, .string (⟨#[]⟩ : ByteArray)]) (t := 26) ?hr ?_; (case hd => rfl); (case hg => rfl); (case hr => first | (go_simp; done) | (go_simp; rfl))
    intro gb167 hg w41 hbox hb
    have BK167 := Aside0.mk (hbox)
    have GW167 := Aside0.mk ((by rw [hg]; exact (below_size HB.out) : w.heap.size ≤ gb167))
    have GE167 := Aside0.mk ((by rw [hg]; exact (below_size HB.out) : w.heap.size ≤ gb167))
    have NB147_167 := Aside0.mk ((by rw [hg]; exact Nat.ne_of_lt (blk_lt BK147.out) : gb147 ≠ gb167))
    have NB167_147 := Aside0.mk ((by rw [hg]; exact Nat.ne_of_gt (blk_lt BK147.out) : gb167 ≠ gb147))
    have NB148_167 := Aside0.mk ((by rw [hg]; exact Nat.ne_of_lt (blk_lt BK148.out) : gb148 ≠ gb167))
    have NB167_148 := Aside0.mk ((by rw [hg]; exact Nat.ne_of_gt (blk_lt BK148.out) : gb167 ≠ gb148))
    replace BK147 := Aside0.mk (blk_below BK147.out hb)
    replace BK148 := Aside0.mk (blk_below BK148.out hb)
    replace HB := Aside0.mk (below_step HB.out hb)
    clear hb hbox hg
    refine hK.out _ _ ⟨b7_ BK147.out 0 rfl, b7_ BK147.out 1 rfl, b7_ BK147.out 2 rfl, b7_ BK147.out 3 rfl, b7_ BK148.out 0 rfl, b7_ BK148.out 1 rfl, b7_ BK148.out 2 rfl, b7_ BK148.out 3 rfl⟩ (fun hHeld => ?_)
    clear hK K
    refine norm_ (a' := ?_) ?_ ?_
    rotate_left
    ·
     show Act.put _ (some 6) _ = _
     simp only [Act.put, List.setIfInBounds_toArray, List.set_cons_zero, List.set_cons_succ, i64_w, i32_w]
     rfl
    exact norm_ (by simp only [putAll, Act.put, List.setIfInBounds_toArray, List.set_cons_zero, List.set_cons_succ] <;> rfl) (hJ1_3_4_8 (gb167) _ ⟨hHeld, BK147.out, BK148.out, BK167.out, GW167.out, GE167.out, NB147_167.out, NB167_147.out, NB148_167.out, NB167_148.out, HB.out⟩)
   skip
   refine box_step ?hg (N := 7) ?hd (cs := #[.bool false, .int .i64 0, .int .i64 0, .string (⟨#[]⟩ : ByteArray)]) (t := 26) ?hr ?_; (case hd => rfl); (case hg => rfl); (case hr => first | (go_simp; done) | (go_simp; rfl))
   intro gb168 hg w41 hbox hb
   have BK168 := Aside0.mk (hbox)
   have GW168 := Aside0.mk ((by rw [hg]; exact (below_size HB.out) : w.heap.size ≤ gb168))
   have GE168 := Aside0.mk ((by rw [hg]; exact (below_size HB.out) : w.heap.size ≤ gb168))
   have NB147_168 := Aside0.mk ((by rw [hg]; exact Nat.ne_of_lt (blk_lt BK147.out) : gb147 ≠ gb168))
   have NB168_147 := Aside0.mk ((by rw [hg]; exact Nat.ne_of_gt (blk_lt BK147.out) : gb168 ≠ gb147))
   have NB148_168 := Aside0.mk ((by rw [hg]; exact Nat.ne_of_lt (blk_lt BK148.out) : gb148 ≠ gb168))
   have NB168_148 := Aside0.mk ((by rw [hg]; exact Nat.ne_of_gt (blk_lt BK148.out) : gb168 ≠ gb148))
   replace BK147 := Aside0.mk (blk_below BK147.out hb)
   replace BK148 := Aside0.mk (blk_below BK148.out hb)
   replace HB := Aside0.mk (below_step HB.out hb)
   clear hb hbox hg
   refine hK.out _ _ ⟨b7_ BK147.out 0 rfl, b7_ BK147.out 1 rfl, b7_ BK147.out 2 rfl, b7_ BK147.out 3 rfl, b7_ BK148.out 0 rfl, b7_ BK148.out 1 rfl, b7_ BK148.out 2 rfl, b7_ BK148.out 3 rfl⟩ (fun hHeld => ?_)
   clear hK K
   refine norm_ (a' := ?_) ?_ ?_
   rotate_left
   ·
    show Act.put _ (some 7) _ = _
    simp only [Act.put, List.setIfInBounds_toArray, List.set_cons_zero, List.set_cons_succ, i64_w, i32_w]
    rfl
   exact norm_ (by simp only [putAll, Act.put, List.setIfInBounds_toArray, List.set_cons_zero, List.set_cons_succ] <;> rfl) (hJ1_3_4_9 (gb168) _ ⟨hHeld, BK147.out, BK148.out, BK168.out, GW168.out, GE168.out, NB147_168.out, NB168_147.out, NB148_168.out, NB168_148.out, HB.out⟩)
  intro hJ1_3_4
  refine join_ (σ := Nat) 7 #[true, true, true, true, false, false, false, false, true, false, false, false] (fun s_ => [(22, .agg #[.bool t151, .int .i64 t152, .int .i64 t153, .string t154]), (24, .agg #[.bool t155, .int .i64 t156, .int .i64 t157, .string t158]), (6, .pointer (some ⟨s_, 0, none⟩))]) (fun s_ w' => (w'.cell? ⟨gb147, 0, none⟩ = some (.bool a0_0) ∧ w'.cell? ⟨gb147, 1, none⟩ = some (.int .i64 a0_1) ∧ w'.cell? ⟨gb147, 2, none⟩ = some (.int .i64 a0_2) ∧ w'.cell? ⟨gb147, 3, none⟩ = some (.string a0_3) ∧ w'.cell? ⟨gb148, 0, none⟩ = some (.bool a1_0) ∧ w'.cell? ⟨gb148, 1, none⟩ = some (.int .i64 a1_1) ∧ w'.cell? ⟨gb148, 2, none⟩ = some (.int .i64 a1_2) ∧ w'.cell? ⟨gb148, 3, none⟩ = some (.string a1_3)) ∧ (w'.heap[gb147]? = some (.cells #[.bool a0_0, .int .i64 a0_1, .int .i64 a0_2, .string a0_3] 23 (0, 0))) ∧ (w'.heap[gb148]? = some (.cells #[.bool a1_0, .int .i64 a1_1, .int .i64 a1_2, .string a1_3] 23 (0, 0))) ∧ (w'.heap[s_]? = some (.cells #[.bool false, .int .i64 0, .int .i64 0, .string (⟨#[]⟩ : ByteArray)] 26 (0, 0))) ∧ (w.heap.size ≤ s_) ∧ (w.heap.size ≤ s_) ∧ (gb147 ≠ s_) ∧ (s_ ≠ gb147) ∧ (gb148 ≠ s_) ∧ (s_ ≠ gb148) ∧ (Below w.heap.size w w')) ?_ ?_
  ·
   skip
   rintro gb167 w40 ⟨hS_, h0_, h1_, h2_, h3_, h4_, h5_, h6_, h7_, h8_, h9_⟩
   have BK167 := Aside0.mk h2_
   have GW167 := Aside0.mk h3_
   have GE167 := Aside0.mk h4_
   have NB147_167 := Aside0.mk h5_
   have NB167_147 := Aside0.mk h6_
   have NB148_167 := Aside0.mk h7_
   have NB167_148 := Aside0.mk h8_
   replace BK147 := Aside0.mk h0_
   replace BK148 := Aside0.mk h1_
   replace HB := Aside0.mk h9_
   clear h0_ h1_ h2_ h3_ h4_ h5_ h6_ h7_ h8_ h9_
   have hHeld : w40.cell? ⟨gb147, 0, none⟩ = some (.bool a0_0) ∧ w40.cell? ⟨gb147, 1, none⟩ = some (.int .i64 a0_1) ∧ w40.cell? ⟨gb147, 2, none⟩ = some (.int .i64 a0_2) ∧ w40.cell? ⟨gb147, 3, none⟩ = some (.string a0_3) ∧ w40.cell? ⟨gb148, 0, none⟩ = some (.bool a1_0) ∧ w40.cell? ⟨gb148, 1, none⟩ = some (.int .i64 a1_1) ∧ w40.cell? ⟨gb148, 2, none⟩ = some (.int .i64 a1_2) ∧ w40.cell? ⟨gb148, 3, none⟩ = some (.string a1_3) := hS_
   refine norm_ (a' := ?_) ?_ ?_
   rotate_left
   ·
    simp only [putAll, Act.put, List.setIfInBounds_toArray, List.set_cons_zero, List.set_cons_succ]
    rfl
   refine two_ (i := 4) (j := 9) (Ni := some 25) (Nj := some 7) #[true, true, true, true, true, false, false, false, true, false, false, false] #[true, true, true, true, false, false, false, false, true, true, false, false] rfl rfl rfl rfl (two_of HT_.out (by kernel_rfl)) (by decide) (by decide) (fun K hK => ?_) (fun K hK => ?_)
   rotate_left
   ·
    skip
    refine box_step ?hg (N := 7) ?hd (cs := #[.bool false, .int .i64 0, .int .i64 0, .string (⟨#[]⟩ : ByteArray)]) (t := 26) ?hr ?_; (case hd => rfl); (case hg => rfl); (case hr => first | (go_simp; done) | (go_simp; rfl))
    intro gb168 hg w41 hbox hb
    have BK168 := Aside0.mk (hbox)
    have GW168 := Aside0.mk ((by rw [hg]; exact (below_size HB.out) : w.heap.size ≤ gb168))
    have GE168 := Aside0.mk ((by rw [hg]; exact (below_size HB.out) : w.heap.size ≤ gb168))
    have NB147_168 := Aside0.mk ((by rw [hg]; exact Nat.ne_of_lt (blk_lt BK147.out) : gb147 ≠ gb168))
    have NB168_147 := Aside0.mk ((by rw [hg]; exact Nat.ne_of_gt (blk_lt BK147.out) : gb168 ≠ gb147))
    have NB148_168 := Aside0.mk ((by rw [hg]; exact Nat.ne_of_lt (blk_lt BK148.out) : gb148 ≠ gb168))
    have NB168_148 := Aside0.mk ((by rw [hg]; exact Nat.ne_of_gt (blk_lt BK148.out) : gb168 ≠ gb148))
    have NB167_168 := Aside0.mk ((by rw [hg]; exact Nat.ne_of_lt (blk_lt BK167.out) : gb167 ≠ gb168))
    have NB168_167 := Aside0.mk ((by rw [hg]; exact Nat.ne_of_gt (blk_lt BK167.out) : gb168 ≠ gb167))
    replace BK147 := Aside0.mk (blk_below BK147.out hb)
    replace BK148 := Aside0.mk (blk_below BK148.out hb)
    replace BK167 := Aside0.mk (blk_below BK167.out hb)
    replace HB := Aside0.mk (below_step HB.out hb)
    clear hb hbox hg
    refine hK.out _ _ ⟨b7_ BK147.out 0 rfl, b7_ BK147.out 1 rfl, b7_ BK147.out 2 rfl, b7_ BK147.out 3 rfl, b7_ BK148.out 0 rfl, b7_ BK148.out 1 rfl, b7_ BK148.out 2 rfl, b7_ BK148.out 3 rfl⟩ (fun hHeld => ?_)
    clear hK K
    refine norm_ (a' := ?_) ?_ ?_
    rotate_left
    ·
     show Act.put _ (some 7) _ = _
     simp only [Act.put, List.setIfInBounds_toArray, List.set_cons_zero, List.set_cons_succ, i64_w, i32_w]
     rfl
    exact norm_ (by simp only [putAll, Act.put, List.setIfInBounds_toArray, List.set_cons_zero, List.set_cons_succ] <;> rfl) (hJ1_3_8_9 (gb167, gb168) _ ⟨hHeld, BK147.out, BK148.out, BK167.out, BK168.out, GW167.out, GE167.out, NB147_167.out, NB167_147.out, NB148_167.out, NB167_148.out, NB168_167.out, NB167_168.out, GW168.out, GE168.out, NB147_168.out, NB168_147.out, NB148_168.out, NB168_148.out, HB.out⟩)
   skip
   refine goes_ Try.func33 (by kernel_rfl) rfl #[.agg #[.bool t151, .int .i64 t152, .int .i64 t153, .string t154], .agg #[.bool t155, .int .i64 t156, .int .i64 t157, .string t158]] (by rfl) rfl rfl (by (try simp only [List.map_toArray, List.map_cons, List.map_nil]); first | done | rfl | (simp only [List.length_drop, List.length_take]; rfl)) ?_
   with_reducible refine (spec_RecPair.calls k t151 t152 t153 t154 t155 t156 t157 t158 t159 t160 t161 t162 t163 t164 t165 t166 _ A21.out).mono ?_
   rintro e w41 ⟨rfl, hb⟩
   refine ⟨_, rfl, ?_⟩
   replace BK147 := Aside0.mk (blk_below BK147.out hb)
   replace BK148 := Aside0.mk (blk_below BK148.out hb)
   replace BK167 := Aside0.mk (blk_below BK167.out hb)
   replace HB := Aside0.mk (below_step HB.out hb)
   (try clear hb)
   (try clear hb2)
   (try clear hk)
   (try clear hi)
   refine hK.out _ _ ⟨b7_ BK147.out 0 rfl, b7_ BK147.out 1 rfl, b7_ BK147.out 2 rfl, b7_ BK147.out 3 rfl, b7_ BK148.out 0 rfl, b7_ BK148.out 1 rfl, b7_ BK148.out 2 rfl, b7_ BK148.out 3 rfl⟩ (fun hHeld => ?_)
   clear hK K
   refine norm_ (a' := ?_) ?_ ?_
   rotate_left
   ·
    show Act.put _ (some 25) _ = _
    simp only [Act.put, List.setIfInBounds_toArray, List.set_cons_zero, List.set_cons_succ, i64_w, i32_w]
    rfl
   refine pure_ (i := 5) (N := some 20) (v := ?_) (a' := ?_) #[true, true, true, true, true, true, false, false, true, false, false, false] rfl rfl (any_of HT_.out (by kernel_rfl)) (fun _ _ _ h => h) (Or.inl ⟨by rfl, ?_⟩) ?_ ?_
   rotate_left
   ·
    intro w'
    go_simp
    with_reducible rfl
   rotate_left
   ·
    simp only [Act.put, List.setIfInBounds_toArray, List.set_cons_zero, List.set_cons_succ, i64_w, i32_w]
    rfl
   refine pure_ (i := 6) (N := some 26) (v := ?_) (a' := ?_) #[true, true, true, true, true, true, true, false, true, false, false, false] rfl rfl (any_of HT_.out (by kernel_rfl)) (fun _ _ _ h => h) (Or.inl ⟨by rfl, ?_⟩) ?_ ?_
   rotate_left
   ·
    intro w'
    go_simp
    with_reducible rfl
   rotate_left
   ·
    simp only [Act.put, List.setIfInBounds_toArray, List.set_cons_zero, List.set_cons_succ, i64_w, i32_w]
    rfl
   refine pure_ (i := 7) (N := some 27) (v := ?_) (a' := ?_) #[true, true, true, true, true, true, true, true, true, false, false, false] rfl rfl (any_of HT_.out (by kernel_rfl)) (fun _ _ _ h => h) (Or.inl ⟨by rfl, ?_⟩) ?_ ?_
   rotate_left
   ·
    intro w'
    go_simp
    with_reducible rfl
   rotate_left
   ·
    simp only [Act.put, List.setIfInBounds_toArray, List.set_cons_zero, List.set_cons_succ, i64_w, i32_w]
    rfl
   exact norm_ (by simp only [putAll, Act.put, List.setIfInBounds_toArray, List.set_cons_zero, List.set_cons_succ] <;> rfl) (hJ1_3_4_8 (gb167) _ ⟨hHeld, BK147.out, BK148.out, BK167.out, GW167.out, GE167.out, NB147_167.out, NB167_147.out, NB148_167.out, NB167_148.out, HB.out⟩)
  intro hJ1_3_8
  refine join_ (σ := Nat) 7 #[true, true, true, true, false, false, false, false, false, true, false, false] (fun s_ => [(22, .agg #[.bool t151, .int .i64 t152, .int .i64 t153, .string t154]), (24, .agg #[.bool t155, .int .i64 t156, .int .i64 t157, .string t158]), (7, .pointer (some ⟨s_, 0, none⟩))]) (fun s_ w' => (w'.cell? ⟨gb147, 0, none⟩ = some (.bool a0_0) ∧ w'.cell? ⟨gb147, 1, none⟩ = some (.int .i64 a0_1) ∧ w'.cell? ⟨gb147, 2, none⟩ = some (.int .i64 a0_2) ∧ w'.cell? ⟨gb147, 3, none⟩ = some (.string a0_3) ∧ w'.cell? ⟨gb148, 0, none⟩ = some (.bool a1_0) ∧ w'.cell? ⟨gb148, 1, none⟩ = some (.int .i64 a1_1) ∧ w'.cell? ⟨gb148, 2, none⟩ = some (.int .i64 a1_2) ∧ w'.cell? ⟨gb148, 3, none⟩ = some (.string a1_3)) ∧ (w'.heap[gb147]? = some (.cells #[.bool a0_0, .int .i64 a0_1, .int .i64 a0_2, .string a0_3] 23 (0, 0))) ∧ (w'.heap[gb148]? = some (.cells #[.bool a1_0, .int .i64 a1_1, .int .i64 a1_2, .string a1_3] 23 (0, 0))) ∧ (w'.heap[s_]? = some (.cells #[.bool false, .int .i64 0, .int .i64 0, .string (⟨#[]⟩ : ByteArray)] 26 (0, 0))) ∧ (w.heap.size ≤ s_) ∧ (w.heap.size ≤ s_) ∧ (gb147 ≠ s_) ∧ (s_ ≠ gb147) ∧ (gb148 ≠ s_) ∧ (s_ ≠ gb148) ∧ (Below w.heap.size w w')) ?_ ?_
  ·
   skip
   rintro gb168 w40 ⟨hS_, h0_, h1_, h2_, h3_, h4_, h5_, h6_, h7_, h8_, h9_⟩
   have BK168 := Aside0.mk h2_
   have GW168 := Aside0.mk h3_
   have GE168 := Aside0.mk h4_
   have NB147_168 := Aside0.mk h5_
   have NB168_147 := Aside0.mk h6_
   have NB148_168 := Aside0.mk h7_
   have NB168_148 := Aside0.mk h8_
   replace BK147 := Aside0.mk h0_
   replace BK148 := Aside0.mk h1_
   replace HB := Aside0.mk h9_
   clear h0_ h1_ h2_ h3_ h4_ h5_ h6_ h7_ h8_ h9_
   have hHeld : w40.cell? ⟨gb147, 0, none⟩ = some (.bool a0_0) ∧ w40.cell? ⟨gb147, 1, none⟩ = some (.int .i64 a0_1) ∧ w40.cell? ⟨gb147, 2, none⟩ = some (.int .i64 a0_2) ∧ w40.cell? ⟨gb147, 3, none⟩ = some (.string a0_3) ∧ w40.cell? ⟨gb148, 0, none⟩ = some (.bool a1_0) ∧ w40.cell? ⟨gb148, 1, none⟩ = some (.int .i64 a1_1) ∧ w40.cell? ⟨gb148, 2, none⟩ = some (.int .i64 a1_2) ∧ w40.cell? ⟨gb148, 3, none⟩ = some (.string a1_3) := hS_
   refine norm_ (a' := ?_) ?_ ?_
   rotate_left
   ·
    simp only [putAll, Act.put, List.setIfInBounds_toArray, List.set_cons_zero, List.set_cons_succ]
    rfl
   refine two_ (i := 4) (j := 8) (Ni := some 25) (Nj := some 6) #[true, true, true, true, true, false, false, false, false, true, false, false] #[true, true, true, true, false, false, false, false, true, true, false, false] rfl rfl rfl rfl (two_of HT_.out (by kernel_rfl)) (by decide) (by decide) (fun K hK => ?_) (fun K hK => ?_)
   rotate_left
   ·
    skip
    refine box_step ?hg (N := 6) ?hd (cs := #[.bool false, .int .i64 0, .int .i64 0, .string (⟨#[]⟩ : ByteArray)]) (t := 26) ?hr ?_; (case hd => rfl); (case hg => rfl); (case hr => first | (go_simp; done) | (go_simp; rfl))
    intro gb167 hg w41 hbox hb
    have BK167 := Aside0.mk (hbox)
    have GW167 := Aside0.mk ((by rw [hg]; exact (below_size HB.out) : w.heap.size ≤ gb167))
    have GE167 := Aside0.mk ((by rw [hg]; exact (below_size HB.out) : w.heap.size ≤ gb167))
    have NB147_167 := Aside0.mk ((by rw [hg]; exact Nat.ne_of_lt (blk_lt BK147.out) : gb147 ≠ gb167))
    have NB167_147 := Aside0.mk ((by rw [hg]; exact Nat.ne_of_gt (blk_lt BK147.out) : gb167 ≠ gb147))
    have NB148_167 := Aside0.mk ((by rw [hg]; exact Nat.ne_of_lt (blk_lt BK148.out) : gb148 ≠ gb167))
    have NB167_148 := Aside0.mk ((by rw [hg]; exact Nat.ne_of_gt (blk_lt BK148.out) : gb167 ≠ gb148))
    have NB168_167 := Aside0.mk ((by rw [hg]; exact Nat.ne_of_lt (blk_lt BK168.out) : gb168 ≠ gb167))
    have NB167_168 := Aside0.mk ((by rw [hg]; exact Nat.ne_of_gt (blk_lt BK168.out) : gb167 ≠ gb168))
    replace BK147 := Aside0.mk (blk_below BK147.out hb)
    replace BK148 := Aside0.mk (blk_below BK148.out hb)
    replace BK168 := Aside0.mk (blk_below BK168.out hb)
    replace HB := Aside0.mk (below_step HB.out hb)
    clear hb hbox hg
    refine hK.out _ _ ⟨b7_ BK147.out 0 rfl, b7_ BK147.out 1 rfl, b7_ BK147.out 2 rfl, b7_ BK147.out 3 rfl, b7_ BK148.out 0 rfl, b7_ BK148.out 1 rfl, b7_ BK148.out 2 rfl, b7_ BK148.out 3 rfl⟩ (fun hHeld => ?_)
    clear hK K
    refine norm_ (a' := ?_) ?_ ?_
    rotate_left
    ·
     show Act.put _ (some 6) _ = _
     simp only [Act.put, List.setIfInBounds_toArray, List.set_cons_zero, List.set_cons_succ, i64_w, i32_w]
     rfl
    exact norm_ (by simp only [putAll, Act.put, List.setIfInBounds_toArray, List.set_cons_zero, List.set_cons_succ] <;> rfl) (hJ1_3_8_9 (gb167, gb168) _ ⟨hHeld, BK147.out, BK148.out, BK167.out, BK168.out, GW167.out, GE167.out, NB147_167.out, NB167_147.out, NB148_167.out, NB167_148.out, NB168_167.out, NB167_168.out, GW168.out, GE168.out, NB147_168.out, NB168_147.out, NB148_168.out, NB168_148.out, HB.out⟩)
   skip
   refine goes_ Try.func33 (by kernel_rfl) rfl #[.agg #[.bool t151, .int .i64 t152, .int .i64 t153, .string t154], .agg #[.bool t155, .int .i64 t156, .int .i64 t157, .string t158]] (by rfl) rfl rfl (by (try simp only [List.map_toArray, List.map_cons, List.map_nil]); first | done | rfl | (simp only [List.length_drop, List.length_take]; rfl)) ?_
   with_reducible refine (spec_RecPair.calls k t151 t152 t153 t154 t155 t156 t157 t158 t159 t160 t161 t162 t163 t164 t165 t166 _ A21.out).mono ?_
   rintro e w41 ⟨rfl, hb⟩
   refine ⟨_, rfl, ?_⟩
   replace BK147 := Aside0.mk (blk_below BK147.out hb)
   replace BK148 := Aside0.mk (blk_below BK148.out hb)
   replace BK168 := Aside0.mk (blk_below BK168.out hb)
   replace HB := Aside0.mk (below_step HB.out hb)
   (try clear hb)
   (try clear hb2)
   (try clear hk)
   (try clear hi)
   refine hK.out _ _ ⟨b7_ BK147.out 0 rfl, b7_ BK147.out 1 rfl, b7_ BK147.out 2 rfl, b7_ BK147.out 3 rfl, b7_ BK148.out 0 rfl, b7_ BK148.out 1 rfl, b7_ BK148.out 2 rfl, b7_ BK148.out 3 rfl⟩ (fun hHeld => ?_)
   clear hK K
   refine norm_ (a' := ?_) ?_ ?_
   rotate_left
   ·
    show Act.put _ (some 25) _ = _
    simp only [Act.put, List.setIfInBounds_toArray, List.set_cons_zero, List.set_cons_succ, i64_w, i32_w]
    rfl
   refine pure_ (i := 5) (N := some 20) (v := ?_) (a' := ?_) #[true, true, true, true, true, true, false, false, false, true, false, false] rfl rfl (any_of HT_.out (by kernel_rfl)) (fun _ _ _ h => h) (Or.inl ⟨by rfl, ?_⟩) ?_ ?_
   rotate_left
   ·
    intro w'
    go_simp
    with_reducible rfl
   rotate_left
   ·
    simp only [Act.put, List.setIfInBounds_toArray, List.set_cons_zero, List.set_cons_succ, i64_w, i32_w]
    rfl
   refine pure_ (i := 6) (N := some 26) (v := ?_) (a' := ?_) #[true, true, true, true, true, true, true, false, false, true, false, false] rfl rfl (any_of HT_.out (by kernel_rfl)) (fun _ _ _ h => h) (Or.inl ⟨by rfl, ?_⟩) ?_ ?_
   rotate_left
   ·
    intro w'
    go_simp
    with_reducible rfl
   rotate_left
   ·
    simp only [Act.put, List.setIfInBounds_toArray, List.set_cons_zero, List.set_cons_succ, i64_w, i32_w]
    rfl
   refine pure_ (i := 7) (N := some 27) (v := ?_) (a' := ?_) #[true, true, true, true, true, true, true, true, false, true, false, false] rfl rfl (any_of HT_.out (by kernel_rfl)) (fun _ _ _ h => h) (Or.inl ⟨by rfl, ?_⟩) ?_ ?_
   rotate_left
   ·
    intro w'
    go_simp
    with_reducible rfl
   rotate_left
   ·
    simp only [Act.put, List.setIfInBounds_toArray, List.set_cons_zero, List.set_cons_succ, i64_w, i32_w]
    rfl
   exact norm_ (by simp only [putAll, Act.put, List.setIfInBounds_toArray, List.set_cons_zero, List.set_cons_succ] <;> rfl) (hJ1_3_4_9 (gb168) _ ⟨hHeld, BK147.out, BK148.out, BK168.out, GW168.out, GE168.out, NB147_168.out, NB168_147.out, NB148_168.out, NB168_148.out, HB.out⟩)
  intro hJ1_3_9
  refine join_ (σ := Nat × Nat) 7 #[true, true, true, false, false, false, false, false, true, true, false, false] (fun s_ => [(22, .agg #[.bool t151, .int .i64 t152, .int .i64 t153, .string t154]), (6, .pointer (some ⟨s_.1, 0, none⟩)), (7, .pointer (some ⟨s_.2, 0, none⟩))]) (fun s_ w' => (w'.cell? ⟨gb147, 0, none⟩ = some (.bool a0_0) ∧ w'.cell? ⟨gb147, 1, none⟩ = some (.int .i64 a0_1) ∧ w'.cell? ⟨gb147, 2, none⟩ = some (.int .i64 a0_2) ∧ w'.cell? ⟨gb147, 3, none⟩ = some (.string a0_3) ∧ w'.cell? ⟨gb148, 0, none⟩ = some (.bool a1_0) ∧ w'.cell? ⟨gb148, 1, none⟩ = some (.int .i64 a1_1) ∧ w'.cell? ⟨gb148, 2, none⟩ = some (.int .i64 a1_2) ∧ w'.cell? ⟨gb148, 3, none⟩ = some (.string a1_3)) ∧ (w'.heap[gb147]? = some (.cells #[.bool a0_0, .int .i64 a0_1, .int .i64 a0_2, .string a0_3] 23 (0, 0))) ∧ (w'.heap[gb148]? = some (.cells #[.bool a1_0, .int .i64 a1_1, .int .i64 a1_2, .string a1_3] 23 (0, 0))) ∧ (w'.heap[s_.1]? = some (.cells #[.bool false, .int .i64 0, .int .i64 0, .string (⟨#[]⟩ : ByteArray)] 26 (0, 0))) ∧ (w'.heap[s_.2]? = some (.cells #[.bool false, .int .i64 0, .int .i64 0, .string (⟨#[]⟩ : ByteArray)] 26 (0, 0))) ∧ (w.heap.size ≤ s_.1) ∧ (w.heap.size ≤ s_.1) ∧ (gb147 ≠ s_.1) ∧ (s_.1 ≠ gb147) ∧ (gb148 ≠ s_.1) ∧ (s_.1 ≠ gb148) ∧ (s_.2 ≠ s_.1) ∧ (s_.1 ≠ s_.2) ∧ (w.heap.size ≤ s_.2) ∧ (w.heap.size ≤ s_.2) ∧ (gb147 ≠ s_.2) ∧ (s_.2 ≠ gb147) ∧ (gb148 ≠ s_.2) ∧ (s_.2 ≠ gb148) ∧ (Below w.heap.size w w')) ?_ ?_
  ·
   skip
   rintro ⟨gb167, gb168⟩ w40 ⟨hS_, h0_, h1_, h2_, h3_, h4_, h5_, h6_, h7_, h8_, h9_, h10_, h11_, h12_, h13_, h14_, h15_, h16_, h17_, h18_⟩
   have BK167 := Aside0.mk h2_
   have BK168 := Aside0.mk h3_
   have GW167 := Aside0.mk h4_
   have GE167 := Aside0.mk h5_
   have NB147_167 := Aside0.mk h6_
   have NB167_147 := Aside0.mk h7_
   have NB148_167 := Aside0.mk h8_
   have NB167_148 := Aside0.mk h9_
   have NB168_167 := Aside0.mk h10_
   have NB167_168 := Aside0.mk h11_
   have GW168 := Aside0.mk h12_
   have GE168 := Aside0.mk h13_
   have NB147_168 := Aside0.mk h14_
   have NB168_147 := Aside0.mk h15_
   have NB148_168 := Aside0.mk h16_
   have NB168_148 := Aside0.mk h17_
   replace BK147 := Aside0.mk h0_
   replace BK148 := Aside0.mk h1_
   replace HB := Aside0.mk h18_
   clear h0_ h1_ h2_ h3_ h4_ h5_ h6_ h7_ h8_ h9_ h10_ h11_ h12_ h13_ h14_ h15_ h16_ h17_ h18_
   have hHeld : w40.cell? ⟨gb147, 0, none⟩ = some (.bool a0_0) ∧ w40.cell? ⟨gb147, 1, none⟩ = some (.int .i64 a0_1) ∧ w40.cell? ⟨gb147, 2, none⟩ = some (.int .i64 a0_2) ∧ w40.cell? ⟨gb147, 3, none⟩ = some (.string a0_3) ∧ w40.cell? ⟨gb148, 0, none⟩ = some (.bool a1_0) ∧ w40.cell? ⟨gb148, 1, none⟩ = some (.int .i64 a1_1) ∧ w40.cell? ⟨gb148, 2, none⟩ = some (.int .i64 a1_2) ∧ w40.cell? ⟨gb148, 3, none⟩ = some (.string a1_3) := hS_
   refine norm_ (a' := ?_) ?_ ?_
   rotate_left
   ·
    simp only [putAll, Act.put, List.setIfInBounds_toArray, List.set_cons_zero, List.set_cons_succ]
    rfl
   refine one_ (i := 3) (N := some 24) #[true, true, true, true, false, false, false, false, true, true, false, false] rfl rfl (one_of HT_.out (by kernel_rfl)) (by decide) (fun K hK => ?_)
   refine goes_ Try.func19 (by kernel_rfl) rfl #[.agg #[.bool a1_0, .int .i64 a1_1, .int .i64 a1_2, .string a1_3]] (by rfl) rfl rfl (by (try simp only [List.map_toArray, List.map_cons, List.map_nil]); first | done | rfl | (simp only [List.length_drop, List.length_take]; rfl)) ?_
   with_reducible refine (laws_toRec.calls a1_0 a1_1 a1_2 a1_3 t155 t156 t157 t158 _ A20.out).mono ?_
   rintro e w41 ⟨rfl, hb⟩
   refine ⟨_, rfl, ?_⟩
   replace BK147 := Aside0.mk (blk_below BK147.out hb)
   replace BK148 := Aside0.mk (blk_below BK148.out hb)
   replace BK167 := Aside0.mk (blk_below BK167.out hb)
   replace BK168 := Aside0.mk (blk_below BK168.out hb)
   replace HB := Aside0.mk (below_step HB.out hb)
   (try clear hb)
   (try clear hb2)
   (try clear hk)
   (try clear hi)
   refine hK.out _ _ ⟨b7_ BK147.out 0 rfl, b7_ BK147.out 1 rfl, b7_ BK147.out 2 rfl, b7_ BK147.out 3 rfl, b7_ BK148.out 0 rfl, b7_ BK148.out 1 rfl, b7_ BK148.out 2 rfl, b7_ BK148.out 3 rfl⟩ (fun hHeld => ?_)
   clear hK K
   refine norm_ (a' := ?_) ?_ ?_
   rotate_left
   ·
    show Act.put _ (some 24) _ = _
    simp only [Act.put, List.setIfInBounds_toArray, List.set_cons_zero, List.set_cons_succ, i64_w, i32_w]
    rfl
   exact norm_ (by simp only [putAll, Act.put, List.setIfInBounds_toArray, List.set_cons_zero, List.set_cons_succ] <;> rfl) (hJ1_3_8_9 (gb167, gb168) _ ⟨hHeld, BK147.out, BK148.out, BK167.out, BK168.out, GW167.out, GE167.out, NB147_167.out, NB167_147.out, NB148_167.out, NB167_148.out, NB168_167.out, NB167_168.out, GW168.out, GE168.out, NB147_168.out, NB168_147.out, NB148_168.out, NB168_148.out, HB.out⟩)
  intro hJ1_8_9
  refine join_ (σ := Unit) 8 #[true, true, true, true, false, false, false, false, false, false, false, false] (fun s_ => [(22, .agg #[.bool t151, .int .i64 t152, .int .i64 t153, .string t154]), (24, .agg #[.bool t155, .int .i64 t156, .int .i64 t157, .string t158])]) (fun s_ w' => (w'.cell? ⟨gb147, 0, none⟩ = some (.bool a0_0) ∧ w'.cell? ⟨gb147, 1, none⟩ = some (.int .i64 a0_1) ∧ w'.cell? ⟨gb147, 2, none⟩ = some (.int .i64 a0_2) ∧ w'.cell? ⟨gb147, 3, none⟩ = some (.string a0_3) ∧ w'.cell? ⟨gb148, 0, none⟩ = some (.bool a1_0) ∧ w'.cell? ⟨gb148, 1, none⟩ = some (.int .i64 a1_1) ∧ w'.cell? ⟨gb148, 2, none⟩ = some (.int .i64 a1_2) ∧ w'.cell? ⟨gb148, 3, none⟩ = some (.string a1_3)) ∧ (w'.heap[gb147]? = some (.cells #[.bool a0_0, .int .i64 a0_1, .int .i64 a0_2, .string a0_3] 23 (0, 0))) ∧ (w'.heap[gb148]? = some (.cells #[.bool a1_0, .int .i64 a1_1, .int .i64 a1_2, .string a1_3] 23 (0, 0))) ∧ (Below w.heap.size w w')) ?_ ?_
  ·
   skip
   rintro _ w39 ⟨hS_, h0_, h1_, h2_⟩
   replace BK147 := Aside0.mk h0_
   replace BK148 := Aside0.mk h1_
   replace HB := Aside0.mk h2_
   clear h0_ h1_ h2_
   have hHeld : w39.cell? ⟨gb147, 0, none⟩ = some (.bool a0_0) ∧ w39.cell? ⟨gb147, 1, none⟩ = some (.int .i64 a0_1) ∧ w39.cell? ⟨gb147, 2, none⟩ = some (.int .i64 a0_2) ∧ w39.cell? ⟨gb147, 3, none⟩ = some (.string a0_3) ∧ w39.cell? ⟨gb148, 0, none⟩ = some (.bool a1_0) ∧ w39.cell? ⟨gb148, 1, none⟩ = some (.int .i64 a1_1) ∧ w39.cell? ⟨gb148, 2, none⟩ = some (.int .i64 a1_2) ∧ w39.cell? ⟨gb148, 3, none⟩ = some (.string a1_3) := hS_
   refine norm_ (a' := ?_) ?_ ?_
   rotate_left
   ·
    simp only [putAll, Act.put, List.setIfInBounds_toArray, List.set_cons_zero, List.set_cons_succ]
    rfl
   refine three_ (i := 4) (j := 8) (k := 9) (Ni := some 25) (Nj := some 6) (Nk := some 7) #[true, true, true, true, true, false, false, false, false, false, false, false] #[true, true, true, true, false, false, false, false, true, false, false, false] #[true, true, true, true, false, false, false, false, false, true, false, false] rfl rfl rfl rfl rfl rfl (three_of HT_.out (by kernel_rfl)) (by decide) (by decide) (by decide) (fun K hK => ?_) (fun K hK => ?_) (fun K hK => ?_)
   ·
    skip
    refine goes_ Try.func33 (by kernel_rfl) rfl #[.agg #[.bool t151, .int .i64 t152, .int .i64 t153, .string t154], .agg #[.bool t155, .int .i64 t156, .int .i64 t157, .string t158]] (by rfl) rfl rfl (by (try simp only [List.map_toArray, List.map_cons, List.map_nil]); first | done | rfl | (simp only [List.length_drop, List.length_take]; rfl)) ?_
    with_reducible refine (spec_RecPair.calls k t151 t152 t153 t154 t155 t156 t157 t158 t159 t160 t161 t162 t163 t164 t165 t166 _ A21.out).mono ?_
    rintro e w40 ⟨rfl, hb⟩
    refine ⟨_, rfl, ?_⟩
    replace BK147 := Aside0.mk (blk_below BK147.out hb)
    replace BK148 := Aside0.mk (blk_below BK148.out hb)
    replace HB := Aside0.mk (below_step HB.out hb)
    (try clear hb)
    (try clear hb2)
    (try clear hk)
    (try clear hi)
    refine hK.out _ _ ⟨b7_ BK147.out 0 rfl, b7_ BK147.out 1 rfl, b7_ BK147.out 2 rfl, b7_ BK147.out 3 rfl, b7_ BK148.out 0 rfl, b7_ BK148.out 1 rfl, b7_ BK148.out 2 rfl, b7_ BK148.out 3 rfl⟩ (fun hHeld => ?_)
    clear hK K
    refine norm_ (a' := ?_) ?_ ?_
    rotate_left
    ·
     show Act.put _ (some 25) _ = _
     simp only [Act.put, List.setIfInBounds_toArray, List.set_cons_zero, List.set_cons_succ, i64_w, i32_w]
     rfl
    refine pure_ (i := 5) (N := some 20) (v := ?_) (a' := ?_) #[true, true, true, true, true, true, false, false, false, false, false, false] rfl rfl (any_of HT_.out (by kernel_rfl)) (fun _ _ _ h => h) (Or.inl ⟨by rfl, ?_⟩) ?_ ?_
    rotate_left
    ·
     intro w'
     go_simp
     with_reducible rfl
    rotate_left
    ·
     simp only [Act.put, List.setIfInBounds_toArray, List.set_cons_zero, List.set_cons_succ, i64_w, i32_w]
     rfl
    refine pure_ (i := 6) (N := some 26) (v := ?_) (a' := ?_) #[true, true, true, true, true, true, true, false, false, false, false, false] rfl rfl (any_of HT_.out (by kernel_rfl)) (fun _ _ _ h => h) (Or.inl ⟨by rfl, ?_⟩) ?_ ?_
    rotate_left
    ·
     intro w'
     go_simp
     with_reducible rfl
    rotate_left
    ·
     simp only [Act.put, List.setIfInBounds_toArray, List.set_cons_zero, List.set_cons_succ, i64_w, i32_w]
     rfl
    refine pure_ (i := 7) (N := some 27) (v := ?_) (a' := ?_) #[true, true, true, true, true, true, true, true, false, false, false, false] rfl rfl (any_of HT_.out (by kernel_rfl)) (fun _ _ _ h => h) (Or.inl ⟨by rfl, ?_⟩) ?_ ?_
    rotate_left
    ·
     intro w'
     go_simp
     with_reducible rfl
    rotate_left
    ·
     simp only [Act.put, List.setIfInBounds_toArray, List.set_cons_zero, List.set_cons_succ, i64_w, i32_w]
     rfl
    exact norm_ (by simp only [putAll, Act.put, List.setIfInBounds_toArray, List.set_cons_zero, List.set_cons_succ] <;> rfl) (hJ1_3_4 () _ ⟨hHeld, BK147.out, BK148.out, HB.out⟩)
   ·
    skip
    refine box_step ?hg (N := 6) ?hd (cs := #[.bool false, .int .i64 0, .int .i64 0, .string (⟨#[]⟩ : ByteArray)]) (t := 26) ?hr ?_; (case hd => rfl); (case hg => rfl); (case hr => first | (go_simp; done) | (go_simp; rfl))
    intro gb167 hg w40 hbox hb
    have BK167 := Aside0.mk (hbox)
    have GW167 := Aside0.mk ((by rw [hg]; exact (below_size HB.out) : w.heap.size ≤ gb167))
    have GE167 := Aside0.mk ((by rw [hg]; exact (below_size HB.out) : w.heap.size ≤ gb167))
    have NB147_167 := Aside0.mk ((by rw [hg]; exact Nat.ne_of_lt (blk_lt BK147.out) : gb147 ≠ gb167))
    have NB167_147 := Aside0.mk ((by rw [hg]; exact Nat.ne_of_gt (blk_lt BK147.out) : gb167 ≠ gb147))
    have NB148_167 := Aside0.mk ((by rw [hg]; exact Nat.ne_of_lt (blk_lt BK148.out) : gb148 ≠ gb167))
    have NB167_148 := Aside0.mk ((by rw [hg]; exact Nat.ne_of_gt (blk_lt BK148.out) : gb167 ≠ gb148))
    replace BK147 := Aside0.mk (blk_below BK147.out hb)
    replace BK148 := Aside0.mk (blk_below BK148.out hb)
    replace HB := Aside0.mk (below_step HB.out hb)
    clear hb hbox hg
    refine hK.out _ _ ⟨b7_ BK147.out 0 rfl, b7_ BK147.out 1 rfl, b7_ BK147.out 2 rfl, b7_ BK147.out 3 rfl, b7_ BK148.out 0 rfl, b7_ BK148.out 1 rfl, b7_ BK148.out 2 rfl, b7_ BK148.out 3 rfl⟩ (fun hHeld => ?_)
    clear hK K
    refine norm_ (a' := ?_) ?_ ?_
    rotate_left
    ·
     show Act.put _ (some 6) _ = _
     simp only [Act.put, List.setIfInBounds_toArray, List.set_cons_zero, List.set_cons_succ, i64_w, i32_w]
     rfl
    exact norm_ (by simp only [putAll, Act.put, List.setIfInBounds_toArray, List.set_cons_zero, List.set_cons_succ] <;> rfl) (hJ1_3_8 (gb167) _ ⟨hHeld, BK147.out, BK148.out, BK167.out, GW167.out, GE167.out, NB147_167.out, NB167_147.out, NB148_167.out, NB167_148.out, HB.out⟩)
   skip
   refine box_step ?hg (N := 7) ?hd (cs := #[.bool false, .int .i64 0, .int .i64 0, .string (⟨#[]⟩ : ByteArray)]) (t := 26) ?hr ?_; (case hd => rfl); (case hg => rfl); (case hr => first | (go_simp; done) | (go_simp; rfl))
   intro gb168 hg w40 hbox hb
   have BK168 := Aside0.mk (hbox)
   have GW168 := Aside0.mk ((by rw [hg]; exact (below_size HB.out) : w.heap.size ≤ gb168))
   have GE168 := Aside0.mk ((by rw [hg]; exact (below_size HB.out) : w.heap.size ≤ gb168))
   have NB147_168 := Aside0.mk ((by rw [hg]; exact Nat.ne_of_lt (blk_lt BK147.out) : gb147 ≠ gb168))
   have NB168_147 := Aside0.mk ((by rw [hg]; exact Nat.ne_of_gt (blk_lt BK147.out) : gb168 ≠ gb147))
   have NB148_168 := Aside0.mk ((by rw [hg]; exact Nat.ne_of_lt (blk_lt BK148.out) : gb148 ≠ gb168))
   have NB168_148 := Aside0.mk ((by rw [hg]; exact Nat.ne_of_gt (blk_lt BK148.out) : gb168 ≠ gb148))
   replace BK147 := Aside0.mk (blk_below BK147.out hb)
   replace BK148 := Aside0.mk (blk_below BK148.out hb)
   replace HB := Aside0.mk (below_step HB.out hb)
   clear hb hbox hg
   refine hK.out _ _ ⟨b7_ BK147.out 0 rfl, b7_ BK147.out 1 rfl, b7_ BK147.out 2 rfl, b7_ BK147.out 3 rfl, b7_ BK148.out 0 rfl, b7_ BK148.out 1 rfl, b7_ BK148.out 2 rfl, b7_ BK148.out 3 rfl⟩ (fun hHeld => ?_)
   clear hK K
   refine norm_ (a' := ?_) ?_ ?_
   rotate_left
   ·
    show Act.put _ (some 7) _ = _
    simp only [Act.put, List.setIfInBounds_toArray, List.set_cons_zero, List.set_cons_succ, i64_w, i32_w]
    rfl
   exact norm_ (by simp only [putAll, Act.put, List.setIfInBounds_toArray, List.set_cons_zero, List.set_cons_succ] <;> rfl) (hJ1_3_9 (gb168) _ ⟨hHeld, BK147.out, BK148.out, BK168.out, GW168.out, GE168.out, NB147_168.out, NB168_147.out, NB148_168.out, NB168_148.out, HB.out⟩)
  intro hJ1_3
  refine join_ (σ := Nat) 8 #[true, true, true, false, false, false, false, false, true, false, false, false] (fun s_ => [(22, .agg #[.bool t151, .int .i64 t152, .int .i64 t153, .string t154]), (6, .pointer (some ⟨s_, 0, none⟩))]) (fun s_ w' => (w'.cell? ⟨gb147, 0, none⟩ = some (.bool a0_0) ∧ w'.cell? ⟨gb147, 1, none⟩ = some (.int .i64 a0_1) ∧ w'.cell? ⟨gb147, 2, none⟩ = some (.int .i64 a0_2) ∧ w'.cell? ⟨gb147, 3, none⟩ = some (.string a0_3) ∧ w'.cell? ⟨gb148, 0, none⟩ = some (.bool a1_0) ∧ w'.cell? ⟨gb148, 1, none⟩ = some (.int .i64 a1_1) ∧ w'.cell? ⟨gb148, 2, none⟩ = some (.int .i64 a1_2) ∧ w'.cell? ⟨gb148, 3, none⟩ = some (.string a1_3)) ∧ (w'.heap[gb147]? = some (.cells #[.bool a0_0, .int .i64 a0_1, .int .i64 a0_2, .string a0_3] 23 (0, 0))) ∧ (w'.heap[gb148]? = some (.cells #[.bool a1_0, .int .i64 a1_1, .int .i64 a1_2, .string a1_3] 23 (0, 0))) ∧ (w'.heap[s_]? = some (.cells #[.bool false, .int .i64 0, .int .i64 0, .string (⟨#[]⟩ : ByteArray)] 26 (0, 0))) ∧ (w.heap.size ≤ s_) ∧ (w.heap.size ≤ s_) ∧ (gb147 ≠ s_) ∧ (s_ ≠ gb147) ∧ (gb148 ≠ s_) ∧ (s_ ≠ gb148) ∧ (Below w.heap.size w w')) ?_ ?_
  ·
   skip
   rintro gb167 w39 ⟨hS_, h0_, h1_, h2_, h3_, h4_, h5_, h6_, h7_, h8_, h9_⟩
   have BK167 := Aside0.mk h2_
   have GW167 := Aside0.mk h3_
   have GE167 := Aside0.mk h4_
   have NB147_167 := Aside0.mk h5_
   have NB167_147 := Aside0.mk h6_
   have NB148_167 := Aside0.mk h7_
   have NB167_148 := Aside0.mk h8_
   replace BK147 := Aside0.mk h0_
   replace BK148 := Aside0.mk h1_
   replace HB := Aside0.mk h9_
   clear h0_ h1_ h2_ h3_ h4_ h5_ h6_ h7_ h8_ h9_
   have hHeld : w39.cell? ⟨gb147, 0, none⟩ = some (.bool a0_0) ∧ w39.cell? ⟨gb147, 1, none⟩ = some (.int .i64 a0_1) ∧ w39.cell? ⟨gb147, 2, none⟩ = some (.int .i64 a0_2) ∧ w39.cell? ⟨gb147, 3, none⟩ = some (.string a0_3) ∧ w39.cell? ⟨gb148, 0, none⟩ = some (.bool a1_0) ∧ w39.cell? ⟨gb148, 1, none⟩ = some (.int .i64 a1_1) ∧ w39.cell? ⟨gb148, 2, none⟩ = some (.int .i64 a1_2) ∧ w39.cell? ⟨gb148, 3, none⟩ = some (.string a1_3) := hS_
   refine norm_ (a' := ?_) ?_ ?_
   rotate_left
   ·
    simp only [putAll, Act.put, List.setIfInBounds_toArray, List.set_cons_zero, List.set_cons_succ]
    rfl
   refine two_ (i := 3) (j := 9) (Ni := some 24) (Nj := some 7) #[true, true, true, true, false, false, false, false, true, false, false, false] #[true, true, true, false, false, false, false, false, true, true, false, false] rfl rfl rfl rfl (two_of HT_.out (by kernel_rfl)) (by decide) (by decide) (fun K hK => ?_) (fun K hK => ?_)
   ·
    skip
    refine goes_ Try.func19 (by kernel_rfl) rfl #[.agg #[.bool a1_0, .int .i64 a1_1, .int .i64 a1_2, .string a1_3]] (by rfl) rfl rfl (by (try simp only [List.map_toArray, List.map_cons, List.map_nil]); first | done | rfl | (simp only [List.length_drop, List.length_take]; rfl)) ?_
    with_reducible refine (laws_toRec.calls a1_0 a1_1 a1_2 a1_3 t155 t156 t157 t158 _ A20.out).mono ?_
    rintro e w40 ⟨rfl, hb⟩
    refine ⟨_, rfl, ?_⟩
    replace BK147 := Aside0.mk (blk_below BK147.out hb)
    replace BK148 := Aside0.mk (blk_below BK148.out hb)
    replace BK167 := Aside0.mk (blk_below BK167.out hb)
    replace HB := Aside0.mk (below_step HB.out hb)
    (try clear hb)
    (try clear hb2)
    (try clear hk)
    (try clear hi)
    refine hK.out _ _ ⟨b7_ BK147.out 0 rfl, b7_ BK147.out 1 rfl, b7_ BK147.out 2 rfl, b7_ BK147.out 3 rfl, b7_ BK148.out 0 rfl, b7_ BK148.out 1 rfl, b7_ BK148.out 2 rfl, b7_ BK148.out 3 rfl⟩ (fun hHeld => ?_)
    clear hK K
    refine norm_ (a' := ?_) ?_ ?_
    rotate_left
    ·
     show Act.put _ (some 24) _ = _
     simp only [Act.put, List.setIfInBounds_toArray, List.set_cons_zero, List.set_cons_succ, i64_w, i32_w]
     rfl
    exact norm_ (by simp only [putAll, Act.put, List.setIfInBounds_toArray, List.set_cons_zero, List.set_cons_succ] <;> rfl) (hJ1_3_8 (gb167) _ ⟨hHeld, BK147.out, BK148.out, BK167.out, GW167.out, GE167.out, NB147_167.out, NB167_147.out, NB148_167.out, NB167_148.out, HB.out⟩)
   skip
   refine box_step ?hg (N := 7) ?hd (cs := #[.bool false, .int .i64 0, .int .i64 0, .string (⟨#[]⟩ : ByteArray)]) (t := 26) ?hr ?_; (case hd => rfl); (case hg => rfl); (case hr => first | (go_simp; done) | (go_simp; rfl))
   intro gb168 hg w40 hbox hb
   have BK168 := Aside0.mk (hbox)
   have GW168 := Aside0.mk ((by rw [hg]; exact (below_size HB.out) : w.heap.size ≤ gb168))
   have GE168 := Aside0.mk ((by rw [hg]; exact (below_size HB.out) : w.heap.size ≤ gb168))
   have NB147_168 := Aside0.mk ((by rw [hg]; exact Nat.ne_of_lt (blk_lt BK147.out) : gb147 ≠ gb168))
   have NB168_147 := Aside0.mk ((by rw [hg]; exact Nat.ne_of_gt (blk_lt BK147.out) : gb168 ≠ gb147))
   have NB148_168 := Aside0.mk ((by rw [hg]; exact Nat.ne_of_lt (blk_lt BK148.out) : gb148 ≠ gb168))
   have NB168_148 := Aside0.mk ((by rw [hg]; exact Nat.ne_of_gt (blk_lt BK148.out) : gb168 ≠ gb148))
   have NB167_168 := Aside0.mk ((by rw [hg]; exact Nat.ne_of_lt (blk_lt BK167.out) : gb167 ≠ gb168))
   have NB168_167 := Aside0.mk ((by rw [hg]; exact Nat.ne_of_gt (blk_lt BK167.out) : gb168 ≠ gb167))
   replace BK147 := Aside0.mk (blk_below BK147.out hb)
   replace BK148 := Aside0.mk (blk_below BK148.out hb)
   replace BK167 := Aside0.mk (blk_below BK167.out hb)
   replace HB := Aside0.mk (below_step HB.out hb)
   clear hb hbox hg
   refine hK.out _ _ ⟨b7_ BK147.out 0 rfl, b7_ BK147.out 1 rfl, b7_ BK147.out 2 rfl, b7_ BK147.out 3 rfl, b7_ BK148.out 0 rfl, b7_ BK148.out 1 rfl, b7_ BK148.out 2 rfl, b7_ BK148.out 3 rfl⟩ (fun hHeld => ?_)
   clear hK K
   refine norm_ (a' := ?_) ?_ ?_
   rotate_left
   ·
    show Act.put _ (some 7) _ = _
    simp only [Act.put, List.setIfInBounds_toArray, List.set_cons_zero, List.set_cons_succ, i64_w, i32_w]
    rfl
   exact norm_ (by simp only [putAll, Act.put, List.setIfInBounds_toArray, List.set_cons_zero, List.set_cons_succ] <;> rfl) (hJ1_8_9 (gb167, gb168) _ ⟨hHeld, BK147.out, BK148.out, BK167.out, BK168.out, GW167.out, GE167.out, NB147_167.out, NB167_147.out, NB148_167.out, NB167_148.out, NB168_167.out, NB167_168.out, GW168.out, GE168.out, NB147_168.out, NB168_147.out, NB148_168.out, NB168_148.out, HB.out⟩)
  intro hJ1_8
  refine join_ (σ := Nat) 8 #[true, true, true, false, false, false, false, false, false, true, false, false] (fun s_ => [(22, .agg #[.bool t151, .int .i64 t152, .int .i64 t153, .string t154]), (7, .pointer (some ⟨s_, 0, none⟩))]) (fun s_ w' => (w'.cell? ⟨gb147, 0, none⟩ = some (.bool a0_0) ∧ w'.cell? ⟨gb147, 1, none⟩ = some (.int .i64 a0_1) ∧ w'.cell? ⟨gb147, 2, none⟩ = some (.int .i64 a0_2) ∧ w'.cell? ⟨gb147, 3, none⟩ = some (.string a0_3) ∧ w'.cell? ⟨gb148, 0, none⟩ = some (.bool a1_0) ∧ w'.cell? ⟨gb148, 1, none⟩ = some (.int .i64 a1_1) ∧ w'.cell? ⟨gb148, 2, none⟩ = some (.int .i64 a1_2) ∧ w'.cell? ⟨gb148, 3, none⟩ = some (.string a1_3)) ∧ (w'.heap[gb147]? = some (.cells #[.bool a0_0, .int .i64 a0_1, .int .i64 a0_2, .string a0_3] 23 (0, 0))) ∧ (w'.heap[gb148]? = some (.cells #[.bool a1_0, .int .i64 a1_1, .int .i64 a1_2, .string a1_3] 23 (0, 0))) ∧ (w'.heap[s_]? = some (.cells #[.bool false, .int .i64 0, .int .i64 0, .string (⟨#[]⟩ : ByteArray)] 26 (0, 0))) ∧ (w.heap.size ≤ s_) ∧ (w.heap.size ≤ s_) ∧ (gb147 ≠ s_) ∧ (s_ ≠ gb147) ∧ (gb148 ≠ s_) ∧ (s_ ≠ gb148) ∧ (Below w.heap.size w w')) ?_ ?_
  ·
   skip
   rintro gb168 w39 ⟨hS_, h0_, h1_, h2_, h3_, h4_, h5_, h6_, h7_, h8_, h9_⟩
   have BK168 := Aside0.mk h2_
   have GW168 := Aside0.mk h3_
   have GE168 := Aside0.mk h4_
   have NB147_168 := Aside0.mk h5_
   have NB168_147 := Aside0.mk h6_
   have NB148_168 := Aside0.mk h7_
   have NB168_148 := Aside0.mk h8_
   replace BK147 := Aside0.mk h0_
   replace BK148 := Aside0.mk h1_
   replace HB := Aside0.mk h9_
   clear h0_ h1_ h2_ h3_ h4_ h5_ h6_ h7_ h8_ h9_
   have hHeld : w39.cell? ⟨gb147, 0, none⟩ = some (.bool a0_0) ∧ w39.cell? ⟨gb147, 1, none⟩ = some (.int .i64 a0_1) ∧ w39.cell? ⟨gb147, 2, none⟩ = some (.int .i64 a0_2) ∧ w39.cell? ⟨gb147, 3, none⟩ = some (.string a0_3) ∧ w39.cell? ⟨gb148, 0, none⟩ = some (.bool a1_0) ∧ w39.cell? ⟨gb148, 1, none⟩ = some (.int .i64 a1_1) ∧ w39.cell? ⟨gb148, 2, none⟩ = some (.int .i64 a1_2) ∧ w39.cell? ⟨gb148, 3, none⟩ = some (.string a1_3) := hS_
   refine norm_ (a' := ?_) ?_ ?_
   rotate_left
   ·
    simp only [putAll, Act.put, List.setIfInBounds_toArray, List.set_cons_zero, List.set_cons_succ]
    rfl
   refine two_ (i := 3) (j := 8) (Ni := some 24) (Nj := some 6) #[true, true, true, true, false, false, false, false, false, true, false, false] #[true, true, true, false, false, false, false, false, true, true, false, false] rfl rfl rfl rfl (two_of HT_.out (by kernel_rfl)) (by decide) (by decide) (fun K hK => ?_) (fun K hK => ?_)
   ·
    skip
    refine goes_ Try.func19 (by kernel_rfl) rfl #[.agg #[.bool a1_0, .int .i64 a1_1, .int .i64 a1_2, .string a1_3]] (by rfl) rfl rfl (by (try simp only [List.map_toArray, List.map_cons, List.map_nil]); first | done | rfl | (simp only [List.length_drop, List.length_take]; rfl)) ?_
    with_reducible refine (laws_toRec.calls a1_0 a1_1 a1_2 a1_3 t155 t156 t157 t158 _ A20.out).mono ?_
    rintro e w40 ⟨rfl, hb⟩
    refine ⟨_, rfl, ?_⟩
    replace BK147 := Aside0.mk (blk_below BK147.out hb)
    replace BK148 := Aside0.mk (blk_below BK148.out hb)
    replace BK168 := Aside0.mk (blk_below BK168.out hb)
    replace HB := Aside0.mk (below_step HB.out hb)
    (try clear hb)
    (try clear hb2)
    (try clear hk)
    (try clear hi)
    refine hK.out _ _ ⟨b7_ BK147.out 0 rfl, b7_ BK147.out 1 rfl, b7_ BK147.out 2 rfl, b7_ BK147.out 3 rfl, b7_ BK148.out 0 rfl, b7_ BK148.out 1 rfl, b7_ BK148.out 2 rfl, b7_ BK148.out 3 rfl⟩ (fun hHeld => ?_)
    clear hK K
    refine norm_ (a' := ?_) ?_ ?_
    rotate_left
    ·
     show Act.put _ (some 24) _ = _
     simp only [Act.put, List.setIfInBounds_toArray, List.set_cons_zero, List.set_cons_succ, i64_w, i32_w]
     rfl
    exact norm_ (by simp only [putAll, Act.put, List.setIfInBounds_toArray, List.set_cons_zero, List.set_cons_succ] <;> rfl) (hJ1_3_9 (gb168) _ ⟨hHeld, BK147.out, BK148.out, BK168.out, GW168.out, GE168.out, NB147_168.out, NB168_147.out, NB148_168.out, NB168_148.out, HB.out⟩)
   skip
   refine box_step ?hg (N := 6) ?hd (cs := #[.bool false, .int .i64 0, .int .i64 0, .string (⟨#[]⟩ : ByteArray)]) (t := 26) ?hr ?_; (case hd => rfl); (case hg => rfl); (case hr => first | (go_simp; done) | (go_simp; rfl))
   intro gb167 hg w40 hbox hb
   have BK167 := Aside0.mk (hbox)
   have GW167 := Aside0.mk ((by rw [hg]; exact (below_size HB.out) : w.heap.size ≤ gb167))
   have GE167 := Aside0.mk ((by rw [hg]; exact (below_size HB.out) : w.heap.size ≤ gb167))
   have NB147_167 := Aside0.mk ((by rw [hg]; exact Nat.ne_of_lt (blk_lt BK147.out) : gb147 ≠ gb167))
   have NB167_147 := Aside0.mk ((by rw [hg]; exact Nat.ne_of_gt (blk_lt BK147.out) : gb167 ≠ gb147))
   have NB148_167 := Aside0.mk ((by rw [hg]; exact Nat.ne_of_lt (blk_lt BK148.out) : gb148 ≠ gb167))
   have NB167_148 := Aside0.mk ((by rw [hg]; exact Nat.ne_of_gt (blk_lt BK148.out) : gb167 ≠ gb148))
   have NB168_167 := Aside0.mk ((by rw [hg]; exact Nat.ne_of_lt (blk_lt BK168.out) : gb168 ≠ gb167))
   have NB167_168 := Aside0.mk ((by rw [hg]; exact Nat.ne_of_gt (blk_lt BK168.out) : gb167 ≠ gb168))
   replace BK147 := Aside0.mk (blk_below BK147.out hb)
   replace BK148 := Aside0.mk (blk_below BK148.out hb)
   replace BK168 := Aside0.mk (blk_below BK168.out hb)
   replace HB := Aside0.mk (below_step HB.out hb)
   clear hb hbox hg
   refine hK.out _ _ ⟨b7_ BK147.out 0 rfl, b7_ BK147.out 1 rfl, b7_ BK147.out 2 rfl, b7_ BK147.out 3 rfl, b7_ BK148.out 0 rfl, b7_ BK148.out 1 rfl, b7_ BK148.out 2 rfl, b7_ BK148.out 3 rfl⟩ (fun hHeld => ?_)
   clear hK K
   refine norm_ (a' := ?_) ?_ ?_
   rotate_left
   ·
    show Act.put _ (some 6) _ = _
    simp only [Act.put, List.setIfInBounds_toArray, List.set_cons_zero, List.set_cons_succ, i64_w, i32_w]
    rfl
   exact norm_ (by simp only [putAll, Act.put, List.setIfInBounds_toArray, List.set_cons_zero, List.set_cons_succ] <;> rfl) (hJ1_8_9 (gb167, gb168) _ ⟨hHeld, BK147.out, BK148.out, BK167.out, BK168.out, GW167.out, GE167.out, NB147_167.out, NB167_147.out, NB148_167.out, NB167_148.out, NB168_167.out, NB167_168.out, GW168.out, GE168.out, NB147_168.out, NB168_147.out, NB148_168.out, NB168_148.out, HB.out⟩)
  intro hJ1_9
  refine join_ (σ := Nat × Nat) 8 #[true, false, true, false, false, false, false, false, true, true, false, false] (fun s_ => [(6, .pointer (some ⟨s_.1, 0, none⟩)), (7, .pointer (some ⟨s_.2, 0, none⟩))]) (fun s_ w' => (w'.cell? ⟨gb147, 0, none⟩ = some (.bool a0_0) ∧ w'.cell? ⟨gb147, 1, none⟩ = some (.int .i64 a0_1) ∧ w'.cell? ⟨gb147, 2, none⟩ = some (.int .i64 a0_2) ∧ w'.cell? ⟨gb147, 3, none⟩ = some (.string a0_3) ∧ w'.cell? ⟨gb148, 0, none⟩ = some (.bool a1_0) ∧ w'.cell? ⟨gb148, 1, none⟩ = some (.int .i64 a1_1) ∧ w'.cell? ⟨gb148, 2, none⟩ = some (.int .i64 a1_2) ∧ w'.cell? ⟨gb148, 3, none⟩ = some (.string a1_3)) ∧ (w'.heap[gb147]? = some (.cells #[.bool a0_0, .int .i64 a0_1, .int .i64 a0_2, .string a0_3] 23 (0, 0))) ∧ (w'.heap[gb148]? = some (.cells #[.bool a1_0, .int .i64 a1_1, .int .i64 a1_2, .string a1_3] 23 (0, 0))) ∧ (w'.heap[s_.1]? = some (.cells #[.bool false, .int .i64 0, .int .i64 0, .string (⟨#[]⟩ : ByteArray)] 26 (0, 0))) ∧ (w'.heap[s_.2]? = some (.cells #[.bool false, .int .i64 0, .int .i64 0, .string (⟨#[]⟩ : ByteArray)] 26 (0, 0))) ∧ (w.heap.size ≤ s_.1) ∧ (w.heap.size ≤ s_.1) ∧ (gb147 ≠ s_.1) ∧ (s_.1 ≠ gb147) ∧ (gb148 ≠ s_.1) ∧ (s_.1 ≠ gb148) ∧ (s_.2 ≠ s_.1) ∧ (s_.1 ≠ s_.2) ∧ (w.heap.size ≤ s_.2) ∧ (w.heap.size ≤ s_.2) ∧ (gb147 ≠ s_.2) ∧ (s_.2 ≠ gb147) ∧ (gb148 ≠ s_.2) ∧ (s_.2 ≠ gb148) ∧ (Below w.heap.size w w')) ?_ ?_
  ·
   skip
   rintro ⟨gb167, gb168⟩ w39 ⟨hS_, h0_, h1_, h2_, h3_, h4_, h5_, h6_, h7_, h8_, h9_, h10_, h11_, h12_, h13_, h14_, h15_, h16_, h17_, h18_⟩
   have BK167 := Aside0.mk h2_
   have BK168 := Aside0.mk h3_
   have GW167 := Aside0.mk h4_
   have GE167 := Aside0.mk h5_
   have NB147_167 := Aside0.mk h6_
   have NB167_147 := Aside0.mk h7_
   have NB148_167 := Aside0.mk h8_
   have NB167_148 := Aside0.mk h9_
   have NB168_167 := Aside0.mk h10_
   have NB167_168 := Aside0.mk h11_
   have GW168 := Aside0.mk h12_
   have GE168 := Aside0.mk h13_
   have NB147_168 := Aside0.mk h14_
   have NB168_147 := Aside0.mk h15_
   have NB148_168 := Aside0.mk h16_
   have NB168_148 := Aside0.mk h17_
   replace BK147 := Aside0.mk h0_
   replace BK148 := Aside0.mk h1_
   replace HB := Aside0.mk h18_
   clear h0_ h1_ h2_ h3_ h4_ h5_ h6_ h7_ h8_ h9_ h10_ h11_ h12_ h13_ h14_ h15_ h16_ h17_ h18_
   have hHeld : w39.cell? ⟨gb147, 0, none⟩ = some (.bool a0_0) ∧ w39.cell? ⟨gb147, 1, none⟩ = some (.int .i64 a0_1) ∧ w39.cell? ⟨gb147, 2, none⟩ = some (.int .i64 a0_2) ∧ w39.cell? ⟨gb147, 3, none⟩ = some (.string a0_3) ∧ w39.cell? ⟨gb148, 0, none⟩ = some (.bool a1_0) ∧ w39.cell? ⟨gb148, 1, none⟩ = some (.int .i64 a1_1) ∧ w39.cell? ⟨gb148, 2, none⟩ = some (.int .i64 a1_2) ∧ w39.cell? ⟨gb148, 3, none⟩ = some (.string a1_3) := hS_
   refine norm_ (a' := ?_) ?_ ?_
   rotate_left
   ·
    simp only [putAll, Act.put, List.setIfInBounds_toArray, List.set_cons_zero, List.set_cons_succ]
    rfl
   refine one_ (i := 1) (N := some 22) #[true, true, true, false, false, false, false, false, true, true, false, false] rfl rfl (one_of HT_.out (by kernel_rfl)) (by decide) (fun K hK => ?_)
   refine goes_ Try.func19 (by kernel_rfl) rfl #[.agg #[.bool a0_0, .int .i64 a0_1, .int .i64 a0_2, .string a0_3]] (by rfl) rfl rfl (by (try simp only [List.map_toArray, List.map_cons, List.map_nil]); first | done | rfl | (simp only [List.length_drop, List.length_take]; rfl)) ?_
   with_reducible refine (laws_toRec.calls a0_0 a0_1 a0_2 a0_3 t151 t152 t153 t154 _ A19.out).mono ?_
   rintro e w40 ⟨rfl, hb⟩
   refine ⟨_, rfl, ?_⟩
   replace BK147 := Aside0.mk (blk_below BK147.out hb)
   replace BK148 := Aside0.mk (blk_below BK148.out hb)
   replace BK167 := Aside0.mk (blk_below BK167.out hb)
   replace BK168 := Aside0.mk (blk_below BK168.out hb)
   replace HB := Aside0.mk (below_step HB.out hb)
   (try clear hb)
   (try clear hb2)
   (try clear hk)
   (try clear hi)
   refine hK.out _ _ ⟨b7_ BK147.out 0 rfl, b7_ BK147.out 1 rfl, b7_ BK147.out 2 rfl, b7_ BK147.out 3 rfl, b7_ BK148.out 0 rfl, b7_ BK148.out 1 rfl, b7_ BK148.out 2 rfl, b7_ BK148.out 3 rfl⟩ (fun hHeld => ?_)
   clear hK K
   refine norm_ (a' := ?_) ?_ ?_
   rotate_left
   ·
    show Act.put _ (some 22) _ = _
    simp only [Act.put, List.setIfInBounds_toArray, List.set_cons_zero, List.set_cons_succ, i64_w, i32_w]
    rfl
   exact norm_ (by simp only [putAll, Act.put, List.setIfInBounds_toArray, List.set_cons_zero, List.set_cons_succ] <;> rfl) (hJ1_8_9 (gb167, gb168) _ ⟨hHeld, BK147.out, BK148.out, BK167.out, BK168.out, GW167.out, GE167.out, NB147_167.out, NB167_147.out, NB148_167.out, NB167_148.out, NB168_167.out, NB167_168.out, GW168.out, GE168.out, NB147_168.out, NB168_147.out, NB148_168.out, NB168_148.out, HB.out⟩)
  intro hJ8_9
  refine join_ (σ := Unit) 9 #[true, true, true, false, false, false, false, false, false, false, false, false] (fun s_ => [(22, .agg #[.bool t151, .int .i64 t152, .int .i64 t153, .string t154])]) (fun s_ w' => (w'.cell? ⟨gb147, 0, none⟩ = some (.bool a0_0) ∧ w'.cell? ⟨gb147, 1, none⟩ = some (.int .i64 a0_1) ∧ w'.cell? ⟨gb147, 2, none⟩ = some (.int .i64 a0_2) ∧ w'.cell? ⟨gb147, 3, none⟩ = some (.string a0_3) ∧ w'.cell? ⟨gb148, 0, none⟩ = some (.bool a1_0) ∧ w'.cell? ⟨gb148, 1, none⟩ = some (.int .i64 a1_1) ∧ w'.cell? ⟨gb148, 2, none⟩ = some (.int .i64 a1_2) ∧ w'.cell? ⟨gb148, 3, none⟩ = some (.string a1_3)) ∧ (w'.heap[gb147]? = some (.cells #[.bool a0_0, .int .i64 a0_1, .int .i64 a0_2, .string a0_3] 23 (0, 0))) ∧ (w'.heap[gb148]? = some (.cells #[.bool a1_0, .int .i64 a1_1, .int .i64 a1_2, .string a1_3] 23 (0, 0))) ∧ (Below w.heap.size w w')) ?_ ?_
  ·
   skip
   rintro _ w38 ⟨hS_, h0_, h1_, h2_⟩
   replace BK147 := Aside0.mk h0_
   replace BK148 := Aside0.mk h1_
   replace HB := Aside0.mk h2_
   clear h0_ h1_ h2_
   have hHeld : w38.cell? ⟨gb147, 0, none⟩ = some (.bool a0_0) ∧ w38.cell? ⟨gb147, 1, none⟩ = some (.int .i64 a0_1) ∧ w38.cell? ⟨gb147, 2, none⟩ = some (.int .i64 a0_2) ∧ w38.cell? ⟨gb147, 3, none⟩ = some (.string a0_3) ∧ w38.cell? ⟨gb148, 0, none⟩ = some (.bool a1_0) ∧ w38.cell? ⟨gb148, 1, none⟩ = some (.int .i64 a1_1) ∧ w38.cell? ⟨gb148, 2, none⟩ = some (.int .i64 a1_2) ∧ w38.cell? ⟨gb148, 3, none⟩ = some (.string a1_3) := hS_
   refine norm_ (a' := ?_) ?_ ?_
   rotate_left
   ·
    simp only [putAll, Act.put, List.setIfInBounds_toArray, List.set_cons_zero, List.set_cons_succ]
    rfl
   refine three_ (i := 3) (j := 8) (k := 9) (Ni := some 24) (Nj := some 6) (Nk := some 7) #[true, true, true, true, false, false, false, false, false, false, false, false] #[true, true, true, false, false, false, false, false, true, false, false, false] #[true, true, true, false, false, false, false, false, false, true, false, false] rfl rfl rfl rfl rfl rfl (three_of HT_.out (by kernel_rfl)) (by decide) (by decide) (by decide) (fun K hK => ?_) (fun K hK => ?_) (fun K hK => ?_)
   ·
    skip
    refine goes_ Try.func19 (by kernel_rfl) rfl #[.agg #[.bool a1_0, .int .i64 a1_1, .int .i64 a1_2, .string a1_3]] (by rfl) rfl rfl (by (try simp only [List.map_toArray, List.map_cons, List.map_nil]); first | done | rfl | (simp only [List.length_drop, List.length_take]; rfl)) ?_
    with_reducible refine (laws_toRec.calls a1_0 a1_1 a1_2 a1_3 t155 t156 t157 t158 _ A20.out).mono ?_
    rintro e w39 ⟨rfl, hb⟩
    refine ⟨_, rfl, ?_⟩
    replace BK147 := Aside0.mk (blk_below BK147.out hb)
    replace BK148 := Aside0.mk (blk_below BK148.out hb)
    replace HB := Aside0.mk (below_step HB.out hb)
    (try clear hb)
    (try clear hb2)
    (try clear hk)
    (try clear hi)
    refine hK.out _ _ ⟨b7_ BK147.out 0 rfl, b7_ BK147.out 1 rfl, b7_ BK147.out 2 rfl, b7_ BK147.out 3 rfl, b7_ BK148.out 0 rfl, b7_ BK148.out 1 rfl, b7_ BK148.out 2 rfl, b7_ BK148.out 3 rfl⟩ (fun hHeld => ?_)
    clear hK K
    refine norm_ (a' := ?_) ?_ ?_
    rotate_left
    ·
     show Act.put _ (some 24) _ = _
     simp only [Act.put, List.setIfInBounds_toArray, List.set_cons_zero, List.set_cons_succ, i64_w, i32_w]
     rfl
    exact norm_ (by simp only [putAll, Act.put, List.setIfInBounds_toArray, List.set_cons_zero, List.set_cons_succ] <;> rfl) (hJ1_3 () _ ⟨hHeld, BK147.out, BK148.out, HB.out⟩)
   ·
    skip
    refine box_step ?hg (N := 6) ?hd (cs := #[.bool false, .int .i64 0, .int .i64 0, .string (⟨#[]⟩ : ByteArray)]) (t := 26) ?hr ?_; (case hd => rfl); (case hg => rfl); (case hr => first | (go_simp; done) | (go_simp; rfl))
    intro gb167 hg w39 hbox hb
    have BK167 := Aside0.mk (hbox)
    have GW167 := Aside0.mk ((by rw [hg]; exact (below_size HB.out) : w.heap.size ≤ gb167))
    have GE167 := Aside0.mk ((by rw [hg]; exact (below_size HB.out) : w.heap.size ≤ gb167))
    have NB147_167 := Aside0.mk ((by rw [hg]; exact Nat.ne_of_lt (blk_lt BK147.out) : gb147 ≠ gb167))
    have NB167_147 := Aside0.mk ((by rw [hg]; exact Nat.ne_of_gt (blk_lt BK147.out) : gb167 ≠ gb147))
    have NB148_167 := Aside0.mk ((by rw [hg]; exact Nat.ne_of_lt (blk_lt BK148.out) : gb148 ≠ gb167))
    have NB167_148 := Aside0.mk ((by rw [hg]; exact Nat.ne_of_gt (blk_lt BK148.out) : gb167 ≠ gb148))
    replace BK147 := Aside0.mk (blk_below BK147.out hb)
    replace BK148 := Aside0.mk (blk_below BK148.out hb)
    replace HB := Aside0.mk (below_step HB.out hb)
    clear hb hbox hg
    refine hK.out _ _ ⟨b7_ BK147.out 0 rfl, b7_ BK147.out 1 rfl, b7_ BK147.out 2 rfl, b7_ BK147.out 3 rfl, b7_ BK148.out 0 rfl, b7_ BK148.out 1 rfl, b7_ BK148.out 2 rfl, b7_ BK148.out 3 rfl⟩ (fun hHeld => ?_)
    clear hK K
    refine norm_ (a' := ?_) ?_ ?_
    rotate_left
    ·
     show Act.put _ (some 6) _ = _
     simp only [Act.put, List.setIfInBounds_toArray, List.set_cons_zero, List.set_cons_succ, i64_w, i32_w]
     rfl
    exact norm_ (by simp only [putAll, Act.put, List.setIfInBounds_toArray, List.set_cons_zero, List.set_cons_succ] <;> rfl) (hJ1_8 (gb167) _ ⟨hHeld, BK147.out, BK148.out, BK167.out, GW167.out, GE167.out, NB147_167.out, NB167_147.out, NB148_167.out, NB167_148.out, HB.out⟩)
   skip
   refine box_step ?hg (N := 7) ?hd (cs := #[.bool false, .int .i64 0, .int .i64 0, .string (⟨#[]⟩ : ByteArray)]) (t := 26) ?hr ?_; (case hd => rfl); (case hg => rfl); (case hr => first | (go_simp; done) | (go_simp; rfl))
   intro gb168 hg w39 hbox hb
   have BK168 := Aside0.mk (hbox)
   have GW168 := Aside0.mk ((by rw [hg]; exact (below_size HB.out) : w.heap.size ≤ gb168))
   have GE168 := Aside0.mk ((by rw [hg]; exact (below_size HB.out) : w.heap.size ≤ gb168))
   have NB147_168 := Aside0.mk ((by rw [hg]; exact Nat.ne_of_lt (blk_lt BK147.out) : gb147 ≠ gb168))
   have NB168_147 := Aside0.mk ((by rw [hg]; exact Nat.ne_of_gt (blk_lt BK147.out) : gb168 ≠ gb147))
   have NB148_168 := Aside0.mk ((by rw [hg]; exact Nat.ne_of_lt (blk_lt BK148.out) : gb148 ≠ gb168))
   have NB168_148 := Aside0.mk ((by rw [hg]; exact Nat.ne_of_gt (blk_lt BK148.out) : gb168 ≠ gb148))
   replace BK147 := Aside0.mk (blk_below BK147.out hb)
   replace BK148 := Aside0.mk (blk_below BK148.out hb)
   replace HB := Aside0.mk (below_step HB.out hb)
   clear hb hbox hg
   refine hK.out _ _ ⟨b7_ BK147.out 0 rfl, b7_ BK147.out 1 rfl, b7_ BK147.out 2 rfl, b7_ BK147.out 3 rfl, b7_ BK148.out 0 rfl, b7_ BK148.out 1 rfl, b7_ BK148.out 2 rfl, b7_ BK148.out 3 rfl⟩ (fun hHeld => ?_)
   clear hK K
   refine norm_ (a' := ?_) ?_ ?_
   rotate_left
   ·
    show Act.put _ (some 7) _ = _
    simp only [Act.put, List.setIfInBounds_toArray, List.set_cons_zero, List.set_cons_succ, i64_w, i32_w]
    rfl
   exact norm_ (by simp only [putAll, Act.put, List.setIfInBounds_toArray, List.set_cons_zero, List.set_cons_succ] <;> rfl) (hJ1_9 (gb168) _ ⟨hHeld, BK147.out, BK148.out, BK168.out, GW168.out, GE168.out, NB147_168.out, NB168_147.out, NB148_168.out, NB168_148.out, HB.out⟩)
  intro hJ1
  refine join_ (σ := Nat) 9 #[true, false, true, false, false, false, false, false, true, false, false, false] (fun s_ => [(6, .pointer (some ⟨s_, 0, none⟩))]) (fun s_ w' => (w'.cell? ⟨gb147, 0, none⟩ = some (.bool a0_0) ∧ w'.cell? ⟨gb147, 1, none⟩ = some (.int .i64 a0_1) ∧ w'.cell? ⟨gb147, 2, none⟩ = some (.int .i64 a0_2) ∧ w'.cell? ⟨gb147, 3, none⟩ = some (.string a0_3) ∧ w'.cell? ⟨gb148, 0, none⟩ = some (.bool a1_0) ∧ w'.cell? ⟨gb148, 1, none⟩ = some (.int .i64 a1_1) ∧ w'.cell? ⟨gb148, 2, none⟩ = some (.int .i64 a1_2) ∧ w'.cell? ⟨gb148, 3, none⟩ = some (.string a1_3)) ∧ (w'.heap[gb147]? = some (.cells #[.bool a0_0, .int .i64 a0_1, .int .i64 a0_2, .string a0_3] 23 (0, 0))) ∧ (w'.heap[gb148]? = some (.cells #[.bool a1_0, .int .i64 a1_1, .int .i64 a1_2, .string a1_3] 23 (0, 0))) ∧ (w'.heap[s_]? = some (.cells #[.bool false, .int .i64 0, .int .i64 0, .string (⟨#[]⟩ : ByteArray)] 26 (0, 0))) ∧ (w.heap.size ≤ s_) ∧ (w.heap.size ≤ s_) ∧ (gb147 ≠ s_) ∧ (s_ ≠ gb147) ∧ (gb148 ≠ s_) ∧ (s_ ≠ gb148) ∧ (Below w.heap.size w w')) ?_ ?_
  ·
   skip
   rintro gb167 w38 ⟨hS_, h0_, h1_, h2_, h3_, h4_, h5_, h6_, h7_, h8_, h9_⟩
   have BK167 := Aside0.mk h2_
   have GW167 := Aside0.mk h3_
   have GE167 := Aside0.mk h4_
   have NB147_167 := Aside0.mk h5_
   have NB167_147 := Aside0.mk h6_
   have NB148_167 := Aside0.mk h7_
   have NB167_148 := Aside0.mk h8_
   replace BK147 := Aside0.mk h0_
   replace BK148 := Aside0.mk h1_
   replace HB := Aside0.mk h9_
   clear h0_ h1_ h2_ h3_ h4_ h5_ h6_ h7_ h8_ h9_
   have hHeld : w38.cell? ⟨gb147, 0, none⟩ = some (.bool a0_0) ∧ w38.cell? ⟨gb147, 1, none⟩ = some (.int .i64 a0_1) ∧ w38.cell? ⟨gb147, 2, none⟩ = some (.int .i64 a0_2) ∧ w38.cell? ⟨gb147, 3, none⟩ = some (.string a0_3) ∧ w38.cell? ⟨gb148, 0, none⟩ = some (.bool a1_0) ∧ w38.cell? ⟨gb148, 1, none⟩ = some (.int .i64 a1_1) ∧ w38.cell? ⟨gb148, 2, none⟩ = some (.int .i64 a1_2) ∧ w38.cell? ⟨gb148, 3, none⟩ = some (.string a1_3) := hS_
   refine norm_ (a' := ?_) ?_ ?_
   rotate_left
   ·
    simp only [putAll, Act.put, List.setIfInBounds_toArray, List.set_cons_zero, List.set_cons_succ]
    rfl
   refine two_ (i := 1) (j := 9) (Ni := some 22) (Nj := some 7) #[true, true, true, false, false, false, false, false, true, false, false, false] #[true, false, true, false, false, false, false, false, true, true, false, false] rfl rfl rfl rfl (two_of HT_.out (by kernel_rfl)) (by decide) (by decide) (fun K hK => ?_) (fun K hK => ?_)
   ·
    skip
    refine goes_ Try.func19 (by kernel_rfl) rfl #[.agg #[.bool a0_0, .int .i64 a0_1, .int .i64 a0_2, .string a0_3]] (by rfl) rfl rfl (by (try simp only [List.map_toArray, List.map_cons, List.map_nil]); first | done | rfl | (simp only [List.length_drop, List.length_take]; rfl)) ?_
    with_reducible refine (laws_toRec.calls a0_0 a0_1 a0_2 a0_3 t151 t152 t153 t154 _ A19.out).mono ?_
    rintro e w39 ⟨rfl, hb⟩
    refine ⟨_, rfl, ?_⟩
    replace BK147 := Aside0.mk (blk_below BK147.out hb)
    replace BK148 := Aside0.mk (blk_below BK148.out hb)
    replace BK167 := Aside0.mk (blk_below BK167.out hb)
    replace HB := Aside0.mk (below_step HB.out hb)
    (try clear hb)
    (try clear hb2)
    (try clear hk)
    (try clear hi)
    refine hK.out _ _ ⟨b7_ BK147.out 0 rfl, b7_ BK147.out 1 rfl, b7_ BK147.out 2 rfl, b7_ BK147.out 3 rfl, b7_ BK148.out 0 rfl, b7_ BK148.out 1 rfl, b7_ BK148.out 2 rfl, b7_ BK148.out 3 rfl⟩ (fun hHeld => ?_)
    clear hK K
    refine norm_ (a' := ?_) ?_ ?_
    rotate_left
    ·
     show Act.put _ (some 22) _ = _
     simp only [Act.put, List.setIfInBounds_toArray, List.set_cons_zero, List.set_cons_succ, i64_w, i32_w]
     rfl
    exact norm_ (by simp only [putAll, Act.put, List.setIfInBounds_toArray, List.set_cons_zero, List.set_cons_succ] <;> rfl) (hJ1_8 (gb167) _ ⟨hHeld, BK147.out, BK148.out, BK167.out, GW167.out, GE167.out, NB147_167.out, NB167_147.out, NB148_167.out, NB167_148.out, HB.out⟩)
   skip
   refine box_step ?hg (N := 7) ?hd (cs := #[.bool false, .int .i64 0, .int .i64 0, .string (⟨#[]⟩ : ByteArray)]) (t := 26) ?hr ?_; (case hd => rfl); (case hg => rfl); (case hr => first | (go_simp; done) | (go_simp; rfl))
   intro gb168 hg w39 hbox hb
   have BK168 := Aside0.mk (hbox)
   have GW168 := Aside0.mk ((by rw [hg]; exact (below_size HB.out) : w.heap.size ≤ gb168))
   have GE168 := Aside0.mk ((by rw [hg]; exact (below_size HB.out) : w.heap.size ≤ gb168))
   have NB147_168 := Aside0.mk ((by rw [hg]; exact Nat.ne_of_lt (blk_lt BK147.out) : gb147 ≠ gb168))
   have NB168_147 := Aside0.mk ((by rw [hg]; exact Nat.ne_of_gt (blk_lt BK147.out) : gb168 ≠ gb147))
   have NB148_168 := Aside0.mk ((by rw [hg]; exact Nat.ne_of_lt (blk_lt BK148.out) : gb148 ≠ gb168))
   have NB168_148 := Aside0.mk ((by rw [hg]; exact Nat.ne_of_gt (blk_lt BK148.out) : gb168 ≠ gb148))
   have NB167_168 := Aside0.mk ((by rw [hg]; exact Nat.ne_of_lt (blk_lt BK167.out) : gb167 ≠ gb168))
   have NB168_167 := Aside0.mk ((by rw [hg]; exact Nat.ne_of_gt (blk_lt BK167.out) : gb168 ≠ gb167))
   replace BK147 := Aside0.mk (blk_below BK147.out hb)
   replace BK148 := Aside0.mk (blk_below BK148.out hb)
   replace BK167 := Aside0.mk (blk_below BK167.out hb)
   replace HB := Aside0.mk (below_step HB.out hb)
   clear hb hbox hg
   refine hK.out _ _ ⟨b7_ BK147.out 0 rfl, b7_ BK147.out 1 rfl, b7_ BK147.out 2 rfl, b7_ BK147.out 3 rfl, b7_ BK148.out 0 rfl, b7_ BK148.out 1 rfl, b7_ BK148.out 2 rfl, b7_ BK148.out 3 rfl⟩ (fun hHeld => ?_)
   clear hK K
   refine norm_ (a' := ?_) ?_ ?_
   rotate_left
   ·
    show Act.put _ (some 7) _ = _
    simp only [Act.put, List.setIfInBounds_toArray, List.set_cons_zero, List.set_cons_succ, i64_w, i32_w]
    rfl
   exact norm_ (by simp only [putAll, Act.put, List.setIfInBounds_toArray, List.set_cons_zero, List.set_cons_succ] <;> rfl) (hJ8_9 (gb167, gb168) _ ⟨hHeld, BK147.out, BK148.out, BK167.out, BK168.out, GW167.out, GE167.out, NB147_167.out, NB167_147.out, NB148_167.out, NB167_148.out, NB168_167.out, NB167_168.out, GW168.out, GE168.out, NB147_168.out, NB168_147.out, NB148_168.out, NB168_148.out, HB.out⟩)
  intro hJ8
  refine join_ (σ := Nat) 9 #[true, false, true, false, false, false, false, false, false, true, false, false] (fun s_ => [(7, .pointer (some ⟨s_, 0, none⟩))]) (fun s_ w' => (w'.cell? ⟨gb147, 0, none⟩ = some (.bool a0_0) ∧ w'.cell? ⟨gb147, 1, none⟩ = some (.int .i64 a0_1) ∧ w'.cell? ⟨gb147, 2, none⟩ = some (.int .i64 a0_2) ∧ w'.cell? ⟨gb147, 3, none⟩ = some (.string a0_3) ∧ w'.cell? ⟨gb148, 0, none⟩ = some (.bool a1_0) ∧ w'.cell? ⟨gb148, 1, none⟩ = some (.int .i64 a1_1) ∧ w'.cell? ⟨gb148, 2, none⟩ = some (.int .i64 a1_2) ∧ w'.cell? ⟨gb148, 3, none⟩ = some (.string a1_3)) ∧ (w'.heap[gb147]? = some (.cells #[.bool a0_0, .int .i64 a0_1, .int .i64 a0_2, .string a0_3] 23 (0, 0))) ∧ (w'.heap[gb148]? = some (.cells #[.bool a1_0, .int .i64 a1_1, .int .i64 a1_2, .string a1_3] 23 (0, 0))) ∧ (w'.heap[s_]? = some (.cells #[.bool false, .int .i64 0, .int .i64 0, .string (⟨#[]⟩ : ByteArray)] 26 (0, 0))) ∧ (w.heap.size ≤ s_) ∧ (w.heap.size ≤ s_) ∧ (gb147 ≠ s_) ∧ (s_ ≠ gb147) ∧ (gb148 ≠ s_) ∧ (s_ ≠ gb148) ∧ (Below w.heap.size w w')) ?_ ?_
  ·
   skip
   rintro gb168 w38 ⟨hS_, h0_, h1_, h2_, h3_, h4_, h5_, h6_, h7_, h8_, h9_⟩
   have BK168 := Aside0.mk h2_
   have GW168 := Aside0.mk h3_
   have GE168 := Aside0.mk h4_
   have NB147_168 := Aside0.mk h5_
   have NB168_147 := Aside0.mk h6_
   have NB148_168 := Aside0.mk h7_
   have NB168_148 := Aside0.mk h8_
   replace BK147 := Aside0.mk h0_
   replace BK148 := Aside0.mk h1_
   replace HB := Aside0.mk h9_
   clear h0_ h1_ h2_ h3_ h4_ h5_ h6_ h7_ h8_ h9_
   have hHeld : w38.cell? ⟨gb147, 0, none⟩ = some (.bool a0_0) ∧ w38.cell? ⟨gb147, 1, none⟩ = some (.int .i64 a0_1) ∧ w38.cell? ⟨gb147, 2, none⟩ = some (.int .i64 a0_2) ∧ w38.cell? ⟨gb147, 3, none⟩ = some (.string a0_3) ∧ w38.cell? ⟨gb148, 0, none⟩ = some (.bool a1_0) ∧ w38.cell? ⟨gb148, 1, none⟩ = some (.int .i64 a1_1) ∧ w38.cell? ⟨gb148, 2, none⟩ = some (.int .i64 a1_2) ∧ w38.cell? ⟨gb148, 3, none⟩ = some (.string a1_3) := hS_
   refine norm_ (a' := ?_) ?_ ?_
   rotate_left
   ·
    simp only [putAll, Act.put, List.setIfInBounds_toArray, List.set_cons_zero, List.set_cons_succ]
    rfl
   refine two_ (i := 1) (j := 8) (Ni := some 22) (Nj := some 6) #[true, true, true, false, false, false, false, false, false, true, false, false] #[true, false, true, false, false, false, false, false, true, true, false, false] rfl rfl rfl rfl (two_of HT_.out (by kernel_rfl)) (by decide) (by decide) (fun K hK => ?_) (fun K hK => ?_)
   ·
    skip
    refine goes_ Try.func19 (by kernel_rfl) rfl #[.agg #[.bool a0_0, .int .i64 a0_1, .int .i64 a0_2, .string a0_3]] (by rfl) rfl rfl (by (try simp only [List.map_toArray, List.map_cons, List.map_nil]); first | done | rfl | (simp only [List.length_drop, List.length_take]; rfl)) ?_
    with_reducible refine (laws_toRec.calls a0_0 a0_1 a0_2 a0_3 t151 t152 t153 t154 _ A19.out).mono ?_
    rintro e w39 ⟨rfl, hb⟩
    refine ⟨_, rfl, ?_⟩
    replace BK147 := Aside0.mk (blk_below BK147.out hb)
    replace BK148 := Aside0.mk (blk_below BK148.out hb)
    replace BK168 := Aside0.mk (blk_below BK168.out hb)
    replace HB := Aside0.mk (below_step HB.out hb)
    (try clear hb)
    (try clear hb2)
    (try clear hk)
    (try clear hi)
    refine hK.out _ _ ⟨b7_ BK147.out 0 rfl, b7_ BK147.out 1 rfl, b7_ BK147.out 2 rfl, b7_ BK147.out 3 rfl, b7_ BK148.out 0 rfl, b7_ BK148.out 1 rfl, b7_ BK148.out 2 rfl, b7_ BK148.out 3 rfl⟩ (fun hHeld => ?_)
    clear hK K
    refine norm_ (a' := ?_) ?_ ?_
    rotate_left
    ·
     show Act.put _ (some 22) _ = _
     simp only [Act.put, List.setIfInBounds_toArray, List.set_cons_zero, List.set_cons_succ, i64_w, i32_w]
     rfl
    exact norm_ (by simp only [putAll, Act.put, List.setIfInBounds_toArray, List.set_cons_zero, List.set_cons_succ] <;> rfl) (hJ1_9 (gb168) _ ⟨hHeld, BK147.out, BK148.out, BK168.out, GW168.out, GE168.out, NB147_168.out, NB168_147.out, NB148_168.out, NB168_148.out, HB.out⟩)
   skip
   refine box_step ?hg (N := 6) ?hd (cs := #[.bool false, .int .i64 0, .int .i64 0, .string (⟨#[]⟩ : ByteArray)]) (t := 26) ?hr ?_; (case hd => rfl); (case hg => rfl); (case hr => first | (go_simp; done) | (go_simp; rfl))
   intro gb167 hg w39 hbox hb
   have BK167 := Aside0.mk (hbox)
   have GW167 := Aside0.mk ((by rw [hg]; exact (below_size HB.out) : w.heap.size ≤ gb167))
   have GE167 := Aside0.mk ((by rw [hg]; exact (below_size HB.out) : w.heap.size ≤ gb167))
   have NB147_167 := Aside0.mk ((by rw [hg]; exact Nat.ne_of_lt (blk_lt BK147.out) : gb147 ≠ gb167))
   have NB167_147 := Aside0.mk ((by rw [hg]; exact Nat.ne_of_gt (blk_lt BK147.out) : gb167 ≠ gb147))
   have NB148_167 := Aside0.mk ((by rw [hg]; exact Nat.ne_of_lt (blk_lt BK148.out) : gb148 ≠ gb167))
   have NB167_148 := Aside0.mk ((by rw [hg]; exact Nat.ne_of_gt (blk_lt BK148.out) : gb167 ≠ gb148))
   have NB168_167 := Aside0.mk ((by rw [hg]; exact Nat.ne_of_lt (blk_lt BK168.out) : gb168 ≠ gb167))
   have NB167_168 := Aside0.mk ((by rw [hg]; exact Nat.ne_of_gt (blk_lt BK168.out) : gb167 ≠ gb168))
   replace BK147 := Aside0.mk (blk_below BK147.out hb)
   replace BK148 := Aside0.mk (blk_below BK148.out hb)
   replace BK168 := Aside0.mk (blk_below BK168.out hb)
   replace HB := Aside0.mk (below_step HB.out hb)
   clear hb hbox hg
   refine hK.out _ _ ⟨b7_ BK147.out 0 rfl, b7_ BK147.out 1 rfl, b7_ BK147.out 2 rfl, b7_ BK147.out 3 rfl, b7_ BK148.out 0 rfl, b7_ BK148.out 1 rfl, b7_ BK148.out 2 rfl, b7_ BK148.out 3 rfl⟩ (fun hHeld => ?_)
   clear hK K
   refine norm_ (a' := ?_) ?_ ?_
   rotate_left
   ·
    show Act.put _ (some 6) _ = _
    simp only [Act.put, List.setIfInBounds_toArray, List.set_cons_zero, List.set_cons_succ, i64_w, i32_w]
    rfl
   exact norm_ (by simp only [putAll, Act.put, List.setIfInBounds_toArray, List.set_cons_zero, List.set_cons_succ] <;> rfl) (hJ8_9 (gb167, gb168) _ ⟨hHeld, BK147.out, BK148.out, BK167.out, BK168.out, GW167.out, GE167.out, NB147_167.out, NB167_147.out, NB148_167.out, NB167_148.out, NB168_167.out, NB167_168.out, GW168.out, GE168.out, NB147_168.out, NB168_147.out, NB148_168.out, NB168_148.out, HB.out⟩)
  intro hJ9
  refine three_ (i := 1) (j := 8) (k := 9) (Ni := some 22) (Nj := some 6) (Nk := some 7) #[true, true, true, false, false, false, false, false, false, false, false, false] #[true, false, true, false, false, false, false, false, true, false, false, false] #[true, false, true, false, false, false, false, false, false, true, false, false] rfl rfl rfl rfl rfl rfl (three_of HT_.out (by kernel_rfl)) (by decide) (by decide) (by decide) (fun K hK => ?_) (fun K hK => ?_) (fun K hK => ?_)
  ·
   skip
   refine goes_ Try.func19 (by kernel_rfl) rfl #[.agg #[.bool a0_0, .int .i64 a0_1, .int .i64 a0_2, .string a0_3]] (by rfl) rfl rfl (by (try simp only [List.map_toArray, List.map_cons, List.map_nil]); first | done | rfl | (simp only [List.length_drop, List.length_take]; rfl)) ?_
   with_reducible refine (laws_toRec.calls a0_0 a0_1 a0_2 a0_3 t151 t152 t153 t154 _ A19.out).mono ?_
   rintro e w37 ⟨rfl, hb⟩
   refine ⟨_, rfl, ?_⟩
   replace BK147 := Aside0.mk (blk_below BK147.out hb)
   replace BK148 := Aside0.mk (blk_below BK148.out hb)
   replace HB := Aside0.mk (below_step HB.out hb)
   (try clear hb)
   (try clear hb2)
   (try clear hk)
   (try clear hi)
   refine hK.out _ _ ⟨b7_ BK147.out 0 rfl, b7_ BK147.out 1 rfl, b7_ BK147.out 2 rfl, b7_ BK147.out 3 rfl, b7_ BK148.out 0 rfl, b7_ BK148.out 1 rfl, b7_ BK148.out 2 rfl, b7_ BK148.out 3 rfl⟩ (fun hHeld => ?_)
   clear hK K
   refine norm_ (a' := ?_) ?_ ?_
   rotate_left
   ·
    show Act.put _ (some 22) _ = _
    simp only [Act.put, List.setIfInBounds_toArray, List.set_cons_zero, List.set_cons_succ, i64_w, i32_w]
    rfl
   exact norm_ (by simp only [putAll, Act.put, List.setIfInBounds_toArray, List.set_cons_zero, List.set_cons_succ] <;> rfl) (hJ1 () _ ⟨hHeld, BK147.out, BK148.out, HB.out⟩)
  ·
   skip
   refine box_step ?hg (N := 6) ?hd (cs := #[.bool false, .int .i64 0, .int .i64 0, .string (⟨#[]⟩ : ByteArray)]) (t := 26) ?hr ?_; (case hd => rfl); (case hg => rfl); (case hr => first | (go_simp; done) | (go_simp; rfl))
   intro gb167 hg w37 hbox hb
   have BK167 := Aside0.mk (hbox)
   have GW167 := Aside0.mk ((by rw [hg]; exact (below_size HB.out) : w.heap.size ≤ gb167))
   have GE167 := Aside0.mk ((by rw [hg]; exact (below_size HB.out) : w.heap.size ≤ gb167))
   have NB147_167 := Aside0.mk ((by rw [hg]; exact Nat.ne_of_lt (blk_lt BK147.out) : gb147 ≠ gb167))
   have NB167_147 := Aside0.mk ((by rw [hg]; exact Nat.ne_of_gt (blk_lt BK147.out) : gb167 ≠ gb147))
   have NB148_167 := Aside0.mk ((by rw [hg]; exact Nat.ne_of_lt (blk_lt BK148.out) : gb148 ≠ gb167))
   have NB167_148 := Aside0.mk ((by rw [hg]; exact Nat.ne_of_gt (blk_lt BK148.out) : gb167 ≠ gb148))
   replace BK147 := Aside0.mk (blk_below BK147.out hb)
   replace BK148 := Aside0.mk (blk_below BK148.out hb)
   replace HB := Aside0.mk (below_step HB.out hb)
   clear hb hbox hg
   refine hK.out _ _ ⟨b7_ BK147.out 0 rfl, b7_ BK147.out 1 rfl, b7_ BK147.out 2 rfl, b7_ BK147.out 3 rfl, b7_ BK148.out 0 rfl, b7_ BK148.out 1 rfl, b7_ BK148.out 2 rfl, b7_ BK148.out 3 rfl⟩ (fun hHeld => ?_)
   clear hK K
   refine norm_ (a' := ?_) ?_ ?_
   rotate_left
   ·
    show Act.put _ (some 6) _ = _
    simp only [Act.put, List.setIfInBounds_toArray, List.set_cons_zero, List.set_cons_succ, i64_w, i32_w]
    rfl
   exact norm_ (by simp only [putAll, Act.put, List.setIfInBounds_toArray, List.set_cons_zero, List.set_cons_succ] <;> rfl) (hJ8 (gb167) _ ⟨hHeld, BK147.out, BK148.out, BK167.out, GW167.out, GE167.out, NB147_167.out, NB167_147.out, NB148_167.out, NB167_148.out, HB.out⟩)
  skip
  refine box_step ?hg (N := 7) ?hd (cs := #[.bool false, .int .i64 0, .int .i64 0, .string (⟨#[]⟩ : ByteArray)]) (t := 26) ?hr ?_; (case hd => rfl); (case hg => rfl); (case hr => first | (go_simp; done) | (go_simp; rfl))
  intro gb168 hg w37 hbox hb
  have BK168 := Aside0.mk (hbox)
  have GW168 := Aside0.mk ((by rw [hg]; exact (below_size HB.out) : w.heap.size ≤ gb168))
  have GE168 := Aside0.mk ((by rw [hg]; exact (below_size HB.out) : w.heap.size ≤ gb168))
  have NB147_168 := Aside0.mk ((by rw [hg]; exact Nat.ne_of_lt (blk_lt BK147.out) : gb147 ≠ gb168))
  have NB168_147 := Aside0.mk ((by rw [hg]; exact Nat.ne_of_gt (blk_lt BK147.out) : gb168 ≠ gb147))
  have NB148_168 := Aside0.mk ((by rw [hg]; exact Nat.ne_of_lt (blk_lt BK148.out) : gb148 ≠ gb168))
  have NB168_148 := Aside0.mk ((by rw [hg]; exact Nat.ne_of_gt (blk_lt BK148.out) : gb168 ≠ gb148))
  replace BK147 := Aside0.mk (blk_below BK147.out hb)
  replace BK148 := Aside0.mk (blk_below BK148.out hb)
  replace HB := Aside0.mk (below_step HB.out hb)
  clear hb hbox hg
  refine hK.out _ _ ⟨b7_ BK147.out 0 rfl, b7_ BK147.out 1 rfl, b7_ BK147.out 2 rfl, b7_ BK147.out 3 rfl, b7_ BK148.out 0 rfl, b7_ BK148.out 1 rfl, b7_ BK148.out 2 rfl, b7_ BK148.out 3 rfl⟩ (fun hHeld => ?_)
  clear hK K
  refine norm_ (a' := ?_) ?_ ?_
  rotate_left
  ·
   show Act.put _ (some 7) _ = _
   simp only [Act.put, List.setIfInBounds_toArray, List.set_cons_zero, List.set_cons_succ, i64_w, i32_w]
   rfl
  exact norm_ (by simp only [putAll, Act.put, List.setIfInBounds_toArray, List.set_cons_zero, List.set_cons_succ] <;> rfl) (hJ9 (gb168) _ ⟨hHeld, BK147.out, BK148.out, BK168.out, GW168.out, GE168.out, NB147_168.out, NB168_147.out, NB148_168.out, NB168_148.out, HB.out⟩)
 rintro ⟨gb167, gb168⟩ w42 ⟨hS_, h0_, h1_, h2_, h3_, h4_, h5_, h6_, h7_, h8_, h9_, h10_, h11_, h12_, h13_, h14_, h15_, h16_, h17_, h18_⟩
 have BK167 := Aside0.mk h2_
 have BK168 := Aside0.mk h3_
 have GW167 := Aside0.mk h4_
 have GE167 := Aside0.mk h5_
 have NB147_167 := Aside0.mk h6_
 have NB167_147 := Aside0.mk h7_
 have NB148_167 := Aside0.mk h8_
 have NB167_148 := Aside0.mk h9_
 have NB168_167 := Aside0.mk h10_
 have NB167_168 := Aside0.mk h11_
 have GW168 := Aside0.mk h12_
 have GE168 := Aside0.mk h13_
 have NB147_168 := Aside0.mk h14_
 have NB168_147 := Aside0.mk h15_
 have NB148_168 := Aside0.mk h16_
 have NB168_148 := Aside0.mk h17_
 replace BK147 := Aside0.mk h0_
 replace BK148 := Aside0.mk h1_
 replace HB := Aside0.mk h18_
 clear h0_ h1_ h2_ h3_ h4_ h5_ h6_ h7_ h8_ h9_ h10_ h11_ h12_ h13_ h14_ h15_ h16_ h17_ h18_
 have hHeld : w42.cell? ⟨gb147, 0, none⟩ = some (.bool a0_0) ∧ w42.cell? ⟨gb147, 1, none⟩ = some (.int .i64 a0_1) ∧ w42.cell? ⟨gb147, 2, none⟩ = some (.int .i64 a0_2) ∧ w42.cell? ⟨gb147, 3, none⟩ = some (.string a0_3) ∧ w42.cell? ⟨gb148, 0, none⟩ = some (.bool a1_0) ∧ w42.cell? ⟨gb148, 1, none⟩ = some (.int .i64 a1_1) ∧ w42.cell? ⟨gb148, 2, none⟩ = some (.int .i64 a1_2) ∧ w42.cell? ⟨gb148, 3, none⟩ = some (.string a1_3) := hS_
 refine norm_ (a' := ?_) ?_ ?_
 rotate_left
 ·
  simp only [putAll, Act.put, List.setIfInBounds_toArray, List.set_cons_zero, List.set_cons_succ]
  rfl
 refine one_ (i := 10) (N := none) #[true, true, true, true, true, true, true, true, true, true, true, false] rfl rfl (one_of HT_.out (by kernel_rfl)) (by decide) (fun K hK => ?_)
 have hs43 : w42.cell? ⟨gb167, 0, none⟩ = some (.bool false) := b7_ BK167.out 0 rfl
 have hfs43 := blk_frozen BK167.out 0
 have hns43_0 := NB147_167.out
 have hns43_1 := NB148_167.out
 have hns43_3 := NB168_167.out
 have hms43_0 := NB167_147.out
 have hms43_1 := NB167_148.out
 have hms43_3 := NB167_168.out
 have hs44 : w42.cell? ⟨gb167, 1, none⟩ = some (.int .i64 0) := b7_ BK167.out 1 rfl
 have hfs44 := blk_frozen BK167.out 1
 have hns44_0 := NB147_167.out
 have hns44_1 := NB148_167.out
 have hns44_3 := NB168_167.out
 have hms44_0 := NB167_147.out
 have hms44_1 := NB167_148.out
 have hms44_3 := NB167_168.out
 have hs45 : w42.cell? ⟨gb167, 2, none⟩ = some (.int .i64 0) := b7_ BK167.out 2 rfl
 have hfs45 := blk_frozen BK167.out 2
 have hns45_0 := NB147_167.out
 have hns45_1 := NB148_167.out
 have hns45_3 := NB168_167.out
 have hms45_0 := NB167_147.out
 have hms45_1 := NB167_148.out
 have hms45_3 := NB167_168.out
 have hs46 : w42.cell? ⟨gb167, 3, none⟩ = some (.string (⟨#[]⟩ : ByteArray)) := b7_ BK167.out 3 rfl
 have hfs46 := blk_frozen BK167.out 3
 have hns46_0 := NB147_167.out
 have hns46_1 := NB148_167.out
 have hns46_3 := NB168_167.out
 have hms46_0 := NB167_147.out
 have hms46_1 := NB167_148.out
 have hms46_3 := NB167_168.out
 refine skip_ (w1 := ?_) (by rfl) rfl ?_ ?_
 rotate_left
 ·
  go_simp
  rfl
 refine hK.out _ _ ⟨((cell_far (p := ⟨gb167, _, none⟩) NB147_167.out _).trans (((cell_far (p := ⟨gb167, _, none⟩) NB147_167.out _).trans (((cell_far (p := ⟨gb167, _, none⟩) NB147_167.out _).trans (((cell_far (p := ⟨gb167, _, none⟩) NB147_167.out _).trans (hHeld.1)))))))), ((cell_far (p := ⟨gb167, _, none⟩) NB147_167.out _).trans (((cell_far (p := ⟨gb167, _, none⟩) NB147_167.out _).trans (((cell_far (p := ⟨gb167, _, none⟩) NB147_167.out _).trans (((cell_far (p := ⟨gb167, _, none⟩) NB147_167.out _).trans (hHeld.2.1)))))))), ((cell_far (p := ⟨gb167, _, none⟩) NB147_167.out _).trans (((cell_far (p := ⟨gb167, _, none⟩) NB147_167.out _).trans (((cell_far (p := ⟨gb167, _, none⟩) NB147_167.out _).trans (((cell_far (p := ⟨gb167, _, none⟩) NB147_167.out _).trans (hHeld.2.2.1)))))))), ((cell_far (p := ⟨gb167, _, none⟩) NB147_167.out _).trans (((cell_far (p := ⟨gb167, _, none⟩) NB147_167.out _).trans (((cell_far (p := ⟨gb167, _, none⟩) NB147_167.out _).trans (((cell_far (p := ⟨gb167, _, none⟩) NB147_167.out _).trans (hHeld.2.2.2.1)))))))), ((cell_far (p := ⟨gb167, _, none⟩) NB148_167.out _).trans (((cell_far (p := ⟨gb167, _, none⟩) NB148_167.out _).trans (((cell_far (p := ⟨gb167, _, none⟩) NB148_167.out _).trans (((cell_far (p := ⟨gb167, _, none⟩) NB148_167.out _).trans (hHeld.2.2.2.2.1)))))))), ((cell_far (p := ⟨gb167, _, none⟩) NB148_167.out _).trans (((cell_far (p := ⟨gb167, _, none⟩) NB148_167.out _).trans (((cell_far (p := ⟨gb167, _, none⟩) NB148_167.out _).trans (((cell_far (p := ⟨gb167, _, none⟩) NB148_167.out _).trans (hHeld.2.2.2.2.2.1)))))))), ((cell_far (p := ⟨gb167, _, none⟩) NB148_167.out _).trans (((cell_far (p := ⟨gb167, _, none⟩) NB148_167.out _).trans (((cell_far (p := ⟨gb167, _, none⟩) NB148_167.out _).trans (((cell_far (p := ⟨gb167, _, none⟩) NB148_167.out _).trans (hHeld.2.2.2.2.2.2.1)))))))), ((cell_far (p := ⟨gb167, _, none⟩) NB148_167.out _).trans (((cell_far (p := ⟨gb167, _, none⟩) NB148_167.out _).trans (((cell_far (p := ⟨gb167, _, none⟩) NB148_167.out _).trans (((cell_far (p := ⟨gb167, _, none⟩) NB148_167.out _).trans (hHeld.2.2.2.2.2.2.2))))))))⟩ (fun hHeld => ?_)
 clear hK K
 refine one_ (i := 11) (N := none) #[true, true, true, true, true, true, true, true, true, true, true, true] rfl rfl (one_of HT_.out (by kernel_rfl)) (by decide) (fun K hK => ?_)
 have hs47 : w42.cell? ⟨gb168, 0, none⟩ = some (.bool false) := b7_ BK168.out 0 rfl
 have hfs47 := blk_frozen BK168.out 0
 have hns47_0 := NB147_168.out
 have hns47_1 := NB148_168.out
 have hns47_2 := NB167_168.out
 have hms47_0 := NB168_147.out
 have hms47_1 := NB168_148.out
 have hms47_2 := NB168_167.out
 have hs48 : w42.cell? ⟨gb168, 1, none⟩ = some (.int .i64 0) := b7_ BK168.out 1 rfl
 have hfs48 := blk_frozen BK168.out 1
 have hns48_0 := NB147_168.out
 have hns48_1 := NB148_168.out
 have hns48_2 := NB167_168.out
 have hms48_0 := NB168_147.out
 have hms48_1 := NB168_148.out
 have hms48_2 := NB168_167.out
 have hs49 : w42.cell? ⟨gb168, 2, none⟩ = some (.int .i64 0) := b7_ BK168.out 2 rfl
 have hfs49 := blk_frozen BK168.out 2
 have hns49_0 := NB147_168.out
 have hns49_1 := NB148_168.out
 have hns49_2 := NB167_168.out
 have hms49_0 := NB168_147.out
 have hms49_1 := NB168_148.out
 have hms49_2 := NB168_167.out
 have hs50 : w42.cell? ⟨gb168, 3, none⟩ = some (.string (⟨#[]⟩ : ByteArray)) := b7_ BK168.out 3 rfl
 have hfs50 := blk_frozen BK168.out 3
 have hns50_0 := NB147_168.out
 have hns50_1 := NB148_168.out
 have hns50_2 := NB167_168.out
 have hms50_0 := NB168_147.out
 have hms50_1 := NB168_148.out
 have hms50_2 := NB168_167.out
 refine skip_ (w1 := ?_) (by rfl) rfl ?_ ?_
 rotate_left
 ·
  go_simp
  rfl
 refine hK.out _ _ ⟨((cell_far (p := ⟨gb168, _, none⟩) NB147_168.out _).trans (((cell_far (p := ⟨gb168, _, none⟩) NB147_168.out _).trans (((cell_far (p := ⟨gb168, _, none⟩) NB147_168.out _).trans (((cell_far (p := ⟨gb168, _, none⟩) NB147_168.out _).trans (hHeld.1)))))))), ((cell_far (p := ⟨gb168, _, none⟩) NB147_168.out _).trans (((cell_far (p := ⟨gb168, _, none⟩) NB147_168.out _).trans (((cell_far (p := ⟨gb168, _, none⟩) NB147_168.out _).trans (((cell_far (p := ⟨gb168, _, none⟩) NB147_168.out _).trans (hHeld.2.1)))))))), ((cell_far (p := ⟨gb168, _, none⟩) NB147_168.out _).trans (((cell_far (p := ⟨gb168, _, none⟩) NB147_168.out _).trans (((cell_far (p := ⟨gb168, _, none⟩) NB147_168.out _).trans (((cell_far (p := ⟨gb168, _, none⟩) NB147_168.out _).trans (hHeld.2.2.1)))))))), ((cell_far (p := ⟨gb168, _, none⟩) NB147_168.out _).trans (((cell_far (p := ⟨gb168, _, none⟩) NB147_168.out _).trans (((cell_far (p := ⟨gb168, _, none⟩) NB147_168.out _).trans (((cell_far (p := ⟨gb168, _, none⟩) NB147_168.out _).trans (hHeld.2.2.2.1)))))))), ((cell_far (p := ⟨gb168, _, none⟩) NB148_168.out _).trans (((cell_far (p := ⟨gb168, _, none⟩) NB148_168.out _).trans (((cell_far (p := ⟨gb168, _, none⟩) NB148_168.out _).trans (((cell_far (p := ⟨gb168, _, none⟩) NB148_168.out _).trans (hHeld.2.2.2.2.1)))))))), ((cell_far (p := ⟨gb168, _, none⟩) NB148_168.out _).trans (((cell_far (p := ⟨gb168, _, none⟩) NB148_168.out _).trans (((cell_far (p := ⟨gb168, _, none⟩) NB148_168.out _).trans (((cell_far (p := ⟨gb168, _, none⟩) NB148_168.out _).trans (hHeld.2.2.2.2.2.1)))))))), ((cell_far (p := ⟨gb168, _, none⟩) NB148_168.out _).trans (((cell_far (p := ⟨gb168, _, none⟩) NB148_168.out _).trans (((cell_far (p := ⟨gb168, _, none⟩) NB148_168.out _).trans (((cell_far (p := ⟨gb168, _, none⟩) NB148_168.out _).trans (hHeld.2.2.2.2.2.2.1)))))))), ((cell_far (p := ⟨gb168, _, none⟩) NB148_168.out _).trans (((cell_far (p := ⟨gb168, _, none⟩) NB148_168.out _).trans (((cell_far (p := ⟨gb168, _, none⟩) NB148_168.out _).trans (((cell_far (p := ⟨gb168, _, none⟩) NB148_168.out _).trans (hHeld.2.2.2.2.2.2.2))))))))⟩ (fun hHeld => ?_)
 clear hK K
 refine done_ (done_of HT_.out (by kernel_rfl)) ?_
 try go_wp2
 have n0_ : Aside0 (((((((((w42.setCell ⟨gb167, 0, none⟩ (.bool t159)).setCell ⟨gb167, 1, none⟩ (.int .i64 t160)).setCell ⟨gb167, 2, none⟩ (.int .i64 t161)).setCell ⟨gb167, 3, none⟩ (.string t162)).setCell ⟨gb168, 0, none⟩ (.bool t163)).setCell ⟨gb168, 1, none⟩ (.int .i64 t164)).setCell ⟨gb168, 2, none⟩ (.int .i64 t165)).setCell ⟨gb168, 3, none⟩ (.string t166)).heap[gb147]? = some (.cells #[.bool a0_0, .int .i64 a0_1, .int .i64 a0_2, .string a0_3] 23 (0, 0))) := ⟨by (with_reducible repeat (first | refine blk_drewN ?_ _ | refine blk_drew ?_ | refine blk_alloc ?_ _)); refine blk_far ?_ NB147_168.out _; (with_reducible repeat (first | refine blk_drewN ?_ _ | refine blk_drew ?_ | refine blk_alloc ?_ _)); refine blk_far ?_ NB147_168.out _; (with_reducible repeat (first | refine blk_drewN ?_ _ | refine blk_drew ?_ | refine blk_alloc ?_ _)); refine blk_far ?_ NB147_168.out _; (with_reducible repeat (first | refine blk_drewN ?_ _ | refine blk_drew ?_ | refine blk_alloc ?_ _)); refine blk_far ?_ NB147_168.out _; (with_reducible repeat (first | refine blk_drewN ?_ _ | refine blk_drew ?_ | refine blk_alloc ?_ _)); refine blk_far ?_ NB147_167.out _; (with_reducible repeat (first | refine blk_drewN ?_ _ | refine blk_drew ?_ | refine blk_alloc ?_ _)); refine blk_far ?_ NB147_167.out _; (with_reducible repeat (first | refine blk_drewN ?_ _ | refine blk_drew ?_ | refine blk_alloc ?_ _)); refine blk_far ?_ NB147_167.out _; (with_reducible repeat (first | refine blk_drewN ?_ _ | refine blk_drew ?_ | refine blk_alloc ?_ _)); refine blk_far ?_ NB147_167.out _; (with_reducible repeat (first | refine blk_drewN ?_ _ | refine blk_drew ?_ | refine blk_alloc ?_ _)); exact BK147.out⟩
 have n1_ : Aside0 (((((((((w42.setCell ⟨gb167, 0, none⟩ (.bool t159)).setCell ⟨gb167, 1, none⟩ (.int .i64 t160)).setCell ⟨gb167, 2, none⟩ (.int .i64 t161)).setCell ⟨gb167, 3, none⟩ (.string t162)).setCell ⟨gb168, 0, none⟩ (.bool t163)).setCell ⟨gb168, 1, none⟩ (.int .i64 t164)).setCell ⟨gb168, 2, none⟩ (.int .i64 t165)).setCell ⟨gb168, 3, none⟩ (.string t166)).heap[gb148]? = some (.cells #[.bool a1_0, .int .i64 a1_1, .int .i64 a1_2, .string a1_3] 23 (0, 0))) := ⟨by (with_reducible repeat (first | refine blk_drewN ?_ _ | refine blk_drew ?_ | refine blk_alloc ?_ _)); refine blk_far ?_ NB148_168.out _; (with_reducible repeat (first | refine blk_drewN ?_ _ | refine blk_drew ?_ | refine blk_alloc ?_ _)); refine blk_far ?_ NB148_168.out _; (with_reducible repeat (first | refine blk_drewN ?_ _ | refine blk_drew ?_ | refine blk_alloc ?_ _)); refine blk_far ?_ NB148_168.out _; (with_reducible repeat (first | refine blk_drewN ?_ _ | refine blk_drew ?_ | refine blk_alloc ?_ _)); refine blk_far ?_ NB148_168.out _; (with_reducible repeat (first | refine blk_drewN ?_ _ | refine blk_drew ?_ | refine blk_alloc ?_ _)); refine blk_far ?_ NB148_167.out _; (with_reducible repeat (first | refine blk_drewN ?_ _ | refine blk_drew ?_ | refine blk_alloc ?_ _)); refine blk_far ?_ NB148_167.out _; (with_reducible repeat (first | refine blk_drewN ?_ _ | refine blk_drew ?_ | refine blk_alloc ?_ _)); refine blk_far ?_ NB148_167.out _; (with_reducible repeat (first | refine blk_drewN ?_ _ | refine blk_drew ?_ | refine blk_alloc ?_ _)); refine blk_far ?_ NB148_167.out _; (with_reducible repeat (first | refine blk_drewN ?_ _ | refine blk_drew ?_ | refine blk_alloc ?_ _)); exact BK148.out⟩
 have n2_ : Aside0 (((((((((w42.setCell ⟨gb167, 0, none⟩ (.bool t159)).setCell ⟨gb167, 1, none⟩ (.int .i64 t160)).setCell ⟨gb167, 2, none⟩ (.int .i64 t161)).setCell ⟨gb167, 3, none⟩ (.string t162)).setCell ⟨gb168, 0, none⟩ (.bool t163)).setCell ⟨gb168, 1, none⟩ (.int .i64 t164)).setCell ⟨gb168, 2, none⟩ (.int .i64 t165)).setCell ⟨gb168, 3, none⟩ (.string t166)).heap[gb167]? = some (.cells #[.bool t159, .int .i64 t160, .int .i64 t161, .string t162] 26 (0, 0))) := ⟨by (with_reducible repeat (first | refine blk_drewN ?_ _ | refine blk_drew ?_ | refine blk_alloc ?_ _)); refine blk_far ?_ NB167_168.out _; (with_reducible repeat (first | refine blk_drewN ?_ _ | refine blk_drew ?_ | refine blk_alloc ?_ _)); refine blk_far ?_ NB167_168.out _; (with_reducible repeat (first | refine blk_drewN ?_ _ | refine blk_drew ?_ | refine blk_alloc ?_ _)); refine blk_far ?_ NB167_168.out _; (with_reducible repeat (first | refine blk_drewN ?_ _ | refine blk_drew ?_ | refine blk_alloc ?_ _)); refine blk_far ?_ NB167_168.out _; (with_reducible repeat (first | refine blk_drewN ?_ _ | refine blk_drew ?_ | refine blk_alloc ?_ _)); refine blk_put (cs := #[.bool t159, .int .i64 t160, .int .i64 t161, .string (⟨#[]⟩ : ByteArray)]) ?_ 3 _ rfl; (with_reducible repeat (first | refine blk_drewN ?_ _ | refine blk_drew ?_ | refine blk_alloc ?_ _)); refine blk_put (cs := #[.bool t159, .int .i64 t160, .int .i64 0, .string (⟨#[]⟩ : ByteArray)]) ?_ 2 _ rfl; (with_reducible repeat (first | refine blk_drewN ?_ _ | refine blk_drew ?_ | refine blk_alloc ?_ _)); refine blk_put (cs := #[.bool t159, .int .i64 0, .int .i64 0, .string (⟨#[]⟩ : ByteArray)]) ?_ 1 _ rfl; (with_reducible repeat (first | refine blk_drewN ?_ _ | refine blk_drew ?_ | refine blk_alloc ?_ _)); refine blk_put (cs := #[.bool false, .int .i64 0, .int .i64 0, .string (⟨#[]⟩ : ByteArray)]) ?_ 0 _ rfl; (with_reducible repeat (first | refine blk_drewN ?_ _ | refine blk_drew ?_ | refine blk_alloc ?_ _)); exact BK167.out⟩
 have n3_ : Aside0 (((((((((w42.setCell ⟨gb167, 0, none⟩ (.bool t159)).setCell ⟨gb167, 1, none⟩ (.int .i64 t160)).setCell ⟨gb167, 2, none⟩ (.int .i64 t161)).setCell ⟨gb167, 3, none⟩ (.string t162)).setCell ⟨gb168, 0, none⟩ (.bool t163)).setCell ⟨gb168, 1, none⟩ (.int .i64 t164)).setCell ⟨gb168, 2, none⟩ (.int .i64 t165)).setCell ⟨gb168, 3, none⟩ (.string t166)).heap[gb168]? = some (.cells #[.bool t163, .int .i64 t164, .int .i64 t165, .string t166] 26 (0, 0))) := ⟨by (with_reducible repeat (first | refine blk_drewN ?_ _ | refine blk_drew ?_ | refine blk_alloc ?_ _)); refine blk_put (cs := #[.bool t163, .int .i64 t164, .int .i64 t165, .string (⟨#[]⟩ : ByteArray)]) ?_ 3 _ rfl; (with_reducible repeat (first | refine blk_drewN ?_ _ | refine blk_drew ?_ | refine blk_alloc ?_ _)); refine blk_put (cs := #[.bool t163, .int .i64 t164, .int .i64 0, .string (⟨#[]⟩ : ByteArray)]) ?_ 2 _ rfl; (with_reducible repeat (first | refine blk_drewN ?_ _ | refine blk_drew ?_ | refine blk_alloc ?_ _)); refine blk_put (cs := #[.bool t163, .int .i64 0, .int .i64 0, .string (⟨#[]⟩ : ByteArray)]) ?_ 1 _ rfl; (with_reducible repeat (first | refine blk_drewN ?_ _ | refine blk_drew ?_ | refine blk_alloc ?_ _)); refine blk_put (cs := #[.bool false, .int .i64 0, .int .i64 0, .string (⟨#[]⟩ : ByteArray)]) ?_ 0 _ rfl; (with_reducible repeat (first | refine blk_drewN ?_ _ | refine blk_drew ?_ | refine blk_alloc ?_ _)); refine blk_far ?_ NB168_167.out _; (with_reducible repeat (first | refine blk_drewN ?_ _ | refine blk_drew ?_ | refine blk_alloc ?_ _)); refine blk_far ?_ NB168_167.out _; (with_reducible repeat (first | refine blk_drewN ?_ _ | refine blk_drew ?_ | refine blk_alloc ?_ _)); refine blk_far ?_ NB168_167.out _; (with_reducible repeat (first | refine blk_drewN ?_ _ | refine blk_drew ?_ | refine blk_alloc ?_ _)); refine blk_far ?_ NB168_167.out _; (with_reducible repeat (first | refine blk_drewN ?_ _ | refine blk_drew ?_ | refine blk_alloc ?_ _)); exact BK168.out⟩
 have n4_ : Aside0 (Below w.heap.size w ((((((((w42.setCell ⟨gb167, 0, none⟩ (.bool t159)).setCell ⟨gb167, 1, none⟩ (.int .i64 t160)).setCell ⟨gb167, 2, none⟩ (.int .i64 t161)).setCell ⟨gb167, 3, none⟩ (.string t162)).setCell ⟨gb168, 0, none⟩ (.bool t163)).setCell ⟨gb168, 1, none⟩ (.int .i64 t164)).setCell ⟨gb168, 2, none⟩ (.int .i64 t165)).setCell ⟨gb168, 3, none⟩ (.string t166))) := ⟨by repeat (first | (with_reducible first | exact HB.out | apply below_alloc | apply pw_below_drewN | apply below_drew1 | refine below_set ?_ GE147.out | refine below_set ?_ GE148.out | refine below_set ?_ GE167.out | refine below_set ?_ GE168.out) | exact HB.out)⟩
 (try clear BK147)
 (try clear BK148)
 (try clear BK167)
 (try clear BK168)
 (try clear HB)
 generalize ((((((((w42.setCell ⟨gb167, 0, none⟩ (.bool t159)).setCell ⟨gb167, 1, none⟩ (.int .i64 t160)).setCell ⟨gb167, 2, none⟩ (.int .i64 t161)).setCell ⟨gb167, 3, none⟩ (.string t162)).setCell ⟨gb168, 0, none⟩ (.bool t163)).setCell ⟨gb168, 1, none⟩ (.int .i64 t164)).setCell ⟨gb168, 2, none⟩ (.int .i64 t165)).setCell ⟨gb168, 3, none⟩ (.string t166)) = w51 at n0_ n1_ n2_ n3_ n4_ ⊢
 have BK147 := n0_
 have BK148 := n1_
 have BK167 := n2_
 have BK168 := n3_
 have HB := n4_
 clear n0_ n1_ n2_ n3_ n4_
 replace BK147 := Aside0.mk (blk_drew BK147.out)
 replace BK148 := Aside0.mk (blk_drew BK148.out)
 replace BK167 := Aside0.mk (blk_drew BK167.out)
 replace BK168 := Aside0.mk (blk_drew BK168.out)
 replace HB := Aside0.mk (below_drew1 HB.out)
 refine start_ (n := 12) (S := fun w' => w'.cell? ⟨gb147, 0, none⟩ = some (.bool a0_0) ∧ w'.cell? ⟨gb147, 1, none⟩ = some (.int .i64 a0_1) ∧ w'.cell? ⟨gb147, 2, none⟩ = some (.int .i64 a0_2) ∧ w'.cell? ⟨gb147, 3, none⟩ = some (.string a0_3) ∧ w'.cell? ⟨gb148, 0, none⟩ = some (.bool a1_0) ∧ w'.cell? ⟨gb148, 1, none⟩ = some (.int .i64 a1_1) ∧ w'.cell? ⟨gb148, 2, none⟩ = some (.int .i64 a1_2) ∧ w'.cell? ⟨gb148, 3, none⟩ = some (.string a1_3)) (ds := []) #[false, false, false, false, false, false, false, false, false, false, false, false] (by kernel_rfl) rfl rfl ⟨b7_ BK147.out 0 rfl, b7_ BK147.out 1 rfl, b7_ BK147.out 2 rfl, b7_ BK147.out 3 rfl, b7_ BK148.out 0 rfl, b7_ BK148.out 1 rfl, b7_ BK148.out 2 rfl, b7_ BK148.out 3 rfl⟩ (fun hHeld => ?_); refine with_tabW laws_FnExactRecPair.tab9 laws_FnExactRecPair.bits9 (fun HT_ HW_ => ?_)
 generalize w51.drew = w52 at BK147 BK148 BK167 BK168 HB hHeld ⊢
 refine take_ (i := 0) (N := some 29) (v := ?_) (a' := ?_) #[true, false, false, false, false, false, false, false, false, false, false, false] rfl rfl (take_ofW HT_.out HW_.out (by kernel_rfl)) (fun _ _ _ h => h) (Or.inl ⟨by rfl, ?_⟩) hHeld ?_ ?_
 rotate_left
 ·
  rintro w' ⟨s0, s1, s2, s3, s4, s5, s6, s7⟩
  go_simp
  with_reducible rfl
 rotate_left
 ·
  simp only [Act.put, List.setIfInBounds_toArray, List.set_cons_zero, List.set_cons_succ, i64_w, i32_w]
  rfl
 refine take_ (i := 2) (N := some 31) (v := ?_) (a' := ?_) #[true, false, true, false, false, false, false, false, false, false, false, false] rfl rfl (take_ofW HT_.out HW_.out (by kernel_rfl)) (fun _ _ _ h => h) (Or.inl ⟨by rfl, ?_⟩) hHeld ?_ ?_
 rotate_left
 ·
  rintro w' ⟨s0, s1, s2, s3, s4, s5, s6, s7⟩
  go_simp
  with_reducible rfl
 rotate_left
 ·
  simp only [Act.put, List.setIfInBounds_toArray, List.set_cons_zero, List.set_cons_succ, i64_w, i32_w]
  rfl
 refine join_ (σ := Nat × Nat) 2 #[true, true, true, true, true, true, true, true, true, true, false, false] (fun s_ => [(30, .agg #[.bool t169, .int .i64 t170, .int .i64 t171, .string t172]), (32, .agg #[.bool t173, .int .i64 t174, .int .i64 t175, .string t176]), (33, .tuple #[.agg #[.bool t177, .int .i64 t178, .int .i64 t179, .string t180], .agg #[.bool t181, .int .i64 t182, .int .i64 t183, .string t184]]), (8, .pointer (some ⟨s_.1, 0, none⟩)), (9, .pointer (some ⟨s_.2, 0, none⟩)), (28, .tuple #[.agg #[.bool t177, .int .i64 t178, .int .i64 t179, .string t180], .agg #[.bool t181, .int .i64 t182, .int .i64 t183, .string t184]]), (34, .agg #[.bool t177, .int .i64 t178, .int .i64 t179, .string t180]), (35, .agg #[.bool t181, .int .i64 t182, .int .i64 t183, .string t184])]) (fun s_ w' => (w'.cell? ⟨gb147, 0, none⟩ = some (.bool a0_0) ∧ w'.cell? ⟨gb147, 1, none⟩ = some (.int .i64 a0_1) ∧ w'.cell? ⟨gb147, 2, none⟩ = some (.int .i64 a0_2) ∧ w'.cell? ⟨gb147, 3, none⟩ = some (.string a0_3) ∧ w'.cell? ⟨gb148, 0, none⟩ = some (.bool a1_0) ∧ w'.cell? ⟨gb148, 1, none⟩ = some (.int .i64 a1_1) ∧ w'.cell? ⟨gb148, 2, none⟩ = some (.int .i64 a1_2) ∧ w'.cell? ⟨gb148, 3, none⟩ = some (.string a1_3)) ∧ (w'.heap[gb147]? = some (.cells #[.bool a0_0, .int .i64 a0_1, .int .i64 a0_2, .string a0_3] 23 (0, 0))) ∧ (w'.heap[gb148]? = some (.cells #[.bool a1_0, .int .i64 a1_1, .int .i64 a1_2, .string a1_3] 23 (0, 0))) ∧ (w'.heap[gb167]? = some (.cells #[.bool t159, .int .i64 t160, .int .i64 t161, .string t162] 26 (0, 0))) ∧ (w'.heap[gb168]? = some (.cells #[.bool t163, .int .i64 t164, .int .i64 t165, .string t166] 26 (0, 0))) ∧ (w'.heap[s_.1]? = some (.cells #[.bool false, .int .i64 0, .int .i64 0, .string (⟨#[]⟩ : ByteArray)] 26 (0, 0))) ∧ (w'.heap[s_.2]? = some (.cells #[.bool false, .int .i64 0, .int .i64 0, .string (⟨#[]⟩ : ByteArray)] 26 (0, 0))) ∧ (w.heap.size ≤ s_.1) ∧ (w.heap.size ≤ s_.1) ∧ (gb147 ≠ s_.1) ∧ (s_.1 ≠ gb147) ∧ (gb148 ≠ s_.1) ∧ (s_.1 ≠ gb148) ∧ (gb167 ≠ s_.1) ∧ (s_.1 ≠ gb167) ∧ (gb168 ≠ s_.1) ∧ (s_.1 ≠ gb168) ∧ (s_.2 ≠ s_.1) ∧ (s_.1 ≠ s_.2) ∧ (w.heap.size ≤ s_.2) ∧ (w.heap.size ≤ s_.2) ∧ (gb147 ≠ s_.2) ∧ (s_.2 ≠ gb147) ∧ (gb148 ≠ s_.2) ∧ (s_.2 ≠ gb148) ∧ (gb167 ≠ s_.2) ∧ (s_.2 ≠ gb167) ∧ (gb168 ≠ s_.2) ∧ (s_.2 ≠ gb168) ∧ (Below w.heap.size w w')) ?_ ?_
 rotate_left
 ·
  intro hJ1_3_4_8_9
  refine join_ (σ := Nat) 3 #[true, true, true, true, true, true, true, true, true, false, false, false] (fun s_ => [(30, .agg #[.bool t169, .int .i64 t170, .int .i64 t171, .string t172]), (32, .agg #[.bool t173, .int .i64 t174, .int .i64 t175, .string t176]), (33, .tuple #[.agg #[.bool t177, .int .i64 t178, .int .i64 t179, .string t180], .agg #[.bool t181, .int .i64 t182, .int .i64 t183, .string t184]]), (8, .pointer (some ⟨s_, 0, none⟩)), (28, .tuple #[.agg #[.bool t177, .int .i64 t178, .int .i64 t179, .string t180], .agg #[.bool t181, .int .i64 t182, .int .i64 t183, .string t184]]), (34, .agg #[.bool t177, .int .i64 t178, .int .i64 t179, .string t180]), (35, .agg #[.bool t181, .int .i64 t182, .int .i64 t183, .string t184])]) (fun s_ w' => (w'.cell? ⟨gb147, 0, none⟩ = some (.bool a0_0) ∧ w'.cell? ⟨gb147, 1, none⟩ = some (.int .i64 a0_1) ∧ w'.cell? ⟨gb147, 2, none⟩ = some (.int .i64 a0_2) ∧ w'.cell? ⟨gb147, 3, none⟩ = some (.string a0_3) ∧ w'.cell? ⟨gb148, 0, none⟩ = some (.bool a1_0) ∧ w'.cell? ⟨gb148, 1, none⟩ = some (.int .i64 a1_1) ∧ w'.cell? ⟨gb148, 2, none⟩ = some (.int .i64 a1_2) ∧ w'.cell? ⟨gb148, 3, none⟩ = some (.string a1_3)) ∧ (w'.heap[gb147]? = some (.cells #[.bool a0_0, .int .i64 a0_1, .int .i64 a0_2, .string a0_3] 23 (0, 0))) ∧ (w'.heap[gb148]? = some (.cells #[.bool a1_0, .int .i64 a1_1, .int .i64 a1_2, .string a1_3] 23 (0, 0))) ∧ (w'.heap[gb167]? = some (.cells #[.bool t159, .int .i64 t160, .int .i64 t161, .string t162] 26 (0, 0))) ∧ (w'.heap[gb168]? = some (.cells #[.bool t163, .int .i64 t164, .int .i64 t165, .string t166] 26 (0, 0))) ∧ (w'.heap[s_]? = some (.cells #[.bool false, .int .i64 0, .int .i64 0, .string (⟨#[]⟩ : ByteArray)] 26 (0, 0))) ∧ (w.heap.size ≤ s_) ∧ (w.heap.size ≤ s_) ∧ (gb147 ≠ s_) ∧ (s_ ≠ gb147) ∧ (gb148 ≠ s_) ∧ (s_ ≠ gb148) ∧ (gb167 ≠ s_) ∧ (s_ ≠ gb167) ∧ (gb168 ≠ s_) ∧ (s_ ≠ gb168) ∧ (Below w.heap.size w w')) ?_ ?_
  ·
   skip
   rintro gb185 w57 ⟨hS_, h0_, h1_, h2_, h3_, h4_, h5_, h6_, h7_, h8_, h9_, h10_, h11_, h12_, h13_, h14_, h15_⟩
   have BK185 := Aside0.mk h4_
   have GW185 := Aside0.mk h5_
   have GE185 := Aside0.mk h6_
   have NB147_185 := Aside0.mk h7_
   have NB185_147 := Aside0.mk h8_
   have NB148_185 := Aside0.mk h9_
   have NB185_148 := Aside0.mk h10_
   have NB167_185 := Aside0.mk h11_
   have NB185_167 := Aside0.mk h12_
   have NB168_185 := Aside0.mk h13_
   have NB185_168 := Aside0.mk h14_
   replace BK147 := Aside0.mk h0_
   replace BK148 := Aside0.mk h1_
   replace BK167 := Aside0.mk h2_
   replace BK168 := Aside0.mk h3_
   replace HB := Aside0.mk h15_
   clear h0_ h1_ h2_ h3_ h4_ h5_ h6_ h7_ h8_ h9_ h10_ h11_ h12_ h13_ h14_ h15_
   have hHeld : w57.cell? ⟨gb147, 0, none⟩ = some (.bool a0_0) ∧ w57.cell? ⟨gb147, 1, none⟩ = some (.int .i64 a0_1) ∧ w57.cell? ⟨gb147, 2, none⟩ = some (.int .i64 a0_2) ∧ w57.cell? ⟨gb147, 3, none⟩ = some (.string a0_3) ∧ w57.cell? ⟨gb148, 0, none⟩ = some (.bool a1_0) ∧ w57.cell? ⟨gb148, 1, none⟩ = some (.int .i64 a1_1) ∧ w57.cell? ⟨gb148, 2, none⟩ = some (.int .i64 a1_2) ∧ w57.cell? ⟨gb148, 3, none⟩ = some (.string a1_3) := hS_
   refine norm_ (a' := ?_) ?_ ?_
   rotate_left
   ·
    simp only [putAll, Act.put, List.setIfInBounds_toArray, List.set_cons_zero, List.set_cons_succ]
    rfl
   refine one_ (i := 9) (N := some 9) #[true, true, true, true, true, true, true, true, true, true, false, false] rfl rfl (one_of HT_.out (by kernel_rfl)) (by decide) (fun K hK => ?_)
   refine box_step ?hg (N := 9) ?hd (cs := #[.bool false, .int .i64 0, .int .i64 0, .string (⟨#[]⟩ : ByteArray)]) (t := 26) ?hr ?_; (case hd => rfl); (case hg => rfl); (case hr => first | (go_simp; done) | (go_simp; rfl))
   intro gb186 hg w58 hbox hb
   have BK186 := Aside0.mk (hbox)
   have GW186 := Aside0.mk ((by rw [hg]; exact (below_size HB.out) : w.heap.size ≤ gb186))
   have GE186 := Aside0.mk ((by rw [hg]; exact (below_size HB.out) : w.heap.size ≤ gb186))
   have NB147_186 := Aside0.mk ((by rw [hg]; exact Nat.ne_of_lt (blk_lt BK147.out) : gb147 ≠ gb186))
   have NB186_147 := Aside0.mk ((by rw [hg]; exact Nat.ne_of_gt (blk_lt BK147.out) : gb186 ≠ gb147))
   have NB148_186 := Aside0.mk ((by rw [hg]; exact Nat.ne_of_lt (blk_lt BK148.out) : gb148 ≠ gb186))
   have NB186_148 := Aside0.mk ((by rw [hg]; exact Nat.ne_of_gt (blk_lt BK148.out) : gb186 ≠ gb148))
   have NB167_186 := Aside0.mk ((by rw [hg]; exact Nat.ne_of_lt (blk_lt BK167.out) : gb167 ≠ gb186))
   have NB186_167 := Aside0.mk ((by rw [hg]; exact Nat.ne_of_gt (blk_lt BK167.out) : gb186 ≠ gb167))
   have NB168_186 := Aside0.mk ((by rw [hg]; exact Nat.ne_of_lt (blk_lt BK168.out) : gb168 ≠ gb186))
   have NB186_168 := Aside0.mk ((by rw [hg]; exact Nat.ne_of_gt (blk_lt BK168.out) : gb186 ≠ gb168))
   have NB185_186 := Aside0.mk ((by rw [hg]; exact Nat.ne_of_lt (blk_lt BK185.out) : gb185 ≠ gb186))
   have NB186_185 := Aside0.mk ((by rw [hg]; exact Nat.ne_of_gt (blk_lt BK185.out) : gb186 ≠ gb185))
   replace BK147 := Aside0.mk (blk_below BK147.out hb)
   replace BK148 := Aside0.mk (blk_below BK148.out hb)
   replace BK167 := Aside0.mk (blk_below BK167.out hb)
   replace BK168 := Aside0.mk (blk_below BK168.out hb)
   replace BK185 := Aside0.mk (blk_below BK185.out hb)
   replace HB := Aside0.mk (below_step HB.out hb)
   clear hb hbox hg
   refine hK.out _ _ ⟨b7_ BK147.out 0 rfl, b7_ BK147.out 1 rfl, b7_ BK147.out 2 rfl, b7_ BK147.out 3 rfl, b7_ BK148.out 0 rfl, b7_ BK148.out 1 rfl, b7_ BK148.out 2 rfl, b7_ BK148.out 3 rfl⟩ (fun hHeld => ?_)
   clear hK K
   refine norm_ (a' := ?_) ?_ ?_
   rotate_left
   ·
    show Act.put _ (some 9) _ = _
    simp only [Act.put, List.setIfInBounds_toArray, List.set_cons_zero, List.set_cons_succ, i64_w, i32_w]
    rfl
   exact norm_ (by simp only [putAll, Act.put, List.setIfInBounds_toArray, List.set_cons_zero, List.set_cons_succ] <;> rfl) (hJ1_3_4_8_9 (gb185, gb186) _ ⟨hHeld, BK147.out, BK148.out, BK167.out, BK168.out, BK185.out, BK186.out, GW185.out, GE185.out, NB147_185.out, NB185_147.out, NB148_185.out, NB185_148.out, NB167_185.out, NB185_167.out, NB168_185.out, NB185_168.out, NB186_185.out, NB185_186.out, GW186.out, GE186.out, NB147_186.out, NB186_147.out, NB148_186.out, NB186_148.out, NB167_186.out, NB186_167.out, NB168_186.out, NB186_168.out, HB.out⟩)
  intro hJ1_3_4_8
  refine join_ (σ := Nat) 3 #[true, true, true, true, true, true, true, true, false, true, false, false] (fun s_ => [(30, .agg #[.bool t169, .int .i64 t170, .int .i64 t171, .string t172]), (32, .agg #[.bool t173, .int .i64 t174, .int .i64 t175, .string t176]), (33, .tuple #[.agg #[.bool t177, .int .i64 t178, .int .i64 t179, .string t180], .agg #[.bool t181, .int .i64 t182, .int .i64 t183, .string t184]]), (9, .pointer (some ⟨s_, 0, none⟩)), (28, .tuple #[.agg #[.bool t177, .int .i64 t178, .int .i64 t179, .string t180], .agg #[.bool t181, .int .i64 t182, .int .i64 t183, .string t184]]), (34, .agg #[.bool t177, .int .i64 t178, .int .i64 t179, .string t180]), (35, .agg #[.bool t181, .int .i64 t182, .int .i64 t183, .string t184])]) (fun s_ w' => (w'.cell? ⟨gb147, 0, none⟩ = some (.bool a0_0) ∧ w'.cell? ⟨gb147, 1, none⟩ = some (.int .i64 a0_1) ∧ w'.cell? ⟨gb147, 2, none⟩ = some (.int .i64 a0_2) ∧ w'.cell? ⟨gb147, 3, none⟩ = some (.string a0_3) ∧ w'.cell? ⟨gb148, 0, none⟩ = some (.bool a1_0) ∧ w'.cell? ⟨gb148, 1, none⟩ = some (.int .i64 a1_1) ∧ w'.cell? ⟨gb148, 2, none⟩ = some (.int .i64 a1_2) ∧ w'.cell? ⟨gb148, 3, none⟩ = some (.string a1_3)) ∧ (w'.heap[gb147]? = some (.cells #[.bool a0_0, .int .i64 a0_1, .int .i64 a0_2, .string a0_3] 23 (0, 0))) ∧ (w'.heap[gb148]? = some (.cells #[.bool a1_0, .int .i64 a1_1, .int .i64 a1_2, .string a1_3] 23 (0, 0))) ∧ (w'.heap[gb167]? = some (.cells #[.bool t159, .int .i64 t160, .int .i64 t161, .string t162] 26 (0, 0))) ∧ (w'.heap[gb168]? = some (.cells #[.bool t163, .int .i64 t164, .int .i64 t165, .string t166] 26 (0, 0))) ∧ (w'.heap[s_]? = some (.cells #[.bool false, .int .i64 0, .int .i64 0, .string (⟨#[]⟩ : ByteArray)] 26 (0, 0))) ∧ (w.heap.size ≤ s_) ∧ (w.heap.size ≤ s_) ∧ (gb147 ≠ s_) ∧ (s_ ≠ gb147) ∧ (gb148 ≠ s_) ∧ (s_ ≠ gb148) ∧ (gb167 ≠ s_) ∧ (s_ ≠ gb167) ∧ (gb168 ≠ s_) ∧ (s_ ≠ gb168) ∧ (Below w.heap.size w w')) ?_ ?_
  ·
   skip
   rintro gb186 w57 ⟨hS_, h0_, h1_, h2_, h3_, h4_, h5_, h6_, h7_, h8_, h9_, h10_, h11_, h12_, h13_, h14_, h15_⟩
   have BK186 := Aside0.mk h4_
   have GW186 := Aside0.mk h5_
   have GE186 := Aside0.mk h6_
   have NB147_186 := Aside0.mk h7_
   have NB186_147 := Aside0.mk h8_
   have NB148_186 := Aside0.mk h9_
   have NB186_148 := Aside0.mk h10_
   have NB167_186 := Aside0.mk h11_
   have NB186_167 := Aside0.mk h12_
   have NB168_186 := Aside0.mk h13_
   have NB186_168 := Aside0.mk h14_
   replace BK147 := Aside0.mk h0_
   replace BK148 := Aside0.mk h1_
   replace BK167 := Aside0.mk h2_
   replace BK168 := Aside0.mk h3_
   replace HB := Aside0.mk h15_
   clear h0_ h1_ h2_ h3_ h4_ h5_ h6_ h7_ h8_ h9_ h10_ h11_ h12_ h13_ h14_ h15_
   have hHeld : w57.cell? ⟨gb147, 0, none⟩ = some (.bool a0_0) ∧ w57.cell? ⟨gb147, 1, none⟩ = some (.int .i64 a0_1) ∧ w57.cell? ⟨gb147, 2, none⟩ = some (.int .i64 a0_2) ∧ w57.cell? ⟨gb147, 3, none⟩ = some (.string a0_3) ∧ w57.cell? ⟨gb148, 0, none⟩ = some (.bool a1_0) ∧ w57.cell? ⟨gb148, 1, none⟩ = some (.int .i64 a1_1) ∧ w57.cell? ⟨gb148, 2, none⟩ = some (.int .i64 a1_2) ∧ w57.cell? ⟨gb148, 3, none⟩ = some (.string a1_3) := hS_
   refine norm_ (a' := ?_) ?_ ?_
   rotate_left
   ·
    simp only [putAll, Act.put, List.setIfInBounds_toArray, List.set_cons_zero, List.set_cons_succ]
    rfl
   refine one_ (i := 8) (N := some 8) #[true, true, true, true, true, true, true, true, true, true, false, false] rfl rfl (one_of HT_.out (by kernel_rfl)) (by decide) (fun K hK => ?_)
   refine box_step ?hg (N := 8) ?hd (cs := #[.bool false, .int .i64 0, .int .i64 0, .string (⟨#[]⟩ : ByteArray)]) (t := 26) ?hr ?_; (case hd => rfl); (case hg => rfl); (case hr => first | (go_simp; done) | (go_simp; rfl))
   intro gb185 hg w58 hbox hb
   have BK185 := Aside0.mk (hbox)
   have GW185 := Aside0.mk ((by rw [hg]; exact (below_size HB.out) : w.heap.size ≤ gb185))
   have GE185 := Aside0.mk ((by rw [hg]; exact (below_size HB.out) : w.heap.size ≤ gb185))
   have NB147_185 := Aside0.mk ((by rw [hg]; exact Nat.ne_of_lt (blk_lt BK147.out) : gb147 ≠ gb185))
   have NB185_147 := Aside0.mk ((by rw [hg]; exact Nat.ne_of_gt (blk_lt BK147.out) : gb185 ≠ gb147))
   have NB148_185 := Aside0.mk ((by rw [hg]; exact Nat.ne_of_lt (blk_lt BK148.out) : gb148 ≠ gb185))
   have NB185_148 := Aside0.mk ((by rw [hg]; exact Nat.ne_of_gt (blk_lt BK148.out) : gb185 ≠ gb148))
   have NB167_185 := Aside0.mk ((by rw [hg]; exact Nat.ne_of_lt (blk_lt BK167.out) : gb167 ≠ gb185))
   have NB185_167 := Aside0.mk ((by rw [hg]; exact Nat.ne_of_gt (blk_lt BK167.out) : gb185 ≠ gb167))
   have NB168_185 := Aside0.mk ((by rw [hg]; exact Nat.ne_of_lt (blk_lt BK168.out) : gb168 ≠ gb185))
   have NB185_168 := Aside0.mk ((by rw [hg]; exact Nat.ne_of_gt (blk_lt BK168.out) : gb185 ≠ gb168))
   have NB186_185 := Aside0.mk ((by rw [hg]; exact Nat.ne_of_lt (blk_lt BK186.out) : gb186 ≠ gb185))
   have NB185_186 := Aside0.mk ((by rw [hg]; exact Nat.ne_of_gt (blk_lt BK186.out) : gb185 ≠ gb186))
   replace BK147 := Aside0.mk (blk_below BK147.out hb)
   replace BK148 := Aside0.mk (blk_below BK148.out hb)
   replace BK167 := Aside0.mk (blk_below BK167.out hb)
   replace BK168 := Aside0.mk (blk_below BK168.out hb)
   replace BK186 := Aside0.mk (blk_below BK186.out hb)
   replace HB := Aside0.mk (below_step HB.out hb)
   clear hb hbox hg
   refine hK.out _ _ ⟨b7_ BK147.out 0 rfl, b7_ BK147.out 1 rfl, b7_ BK147.out 2 rfl, b7_ BK147.out 3 rfl, b7_ BK148.out 0 rfl, b7_ BK148.out 1 rfl, b7_ BK148.out 2 rfl, b7_ BK148.out 3 rfl⟩ (fun hHeld => ?_)
   clear hK K
   refine norm_ (a' := ?_) ?_ ?_
   rotate_left
   ·
    show Act.put _ (some 8) _ = _
    simp only [Act.put, List.setIfInBounds_toArray, List.set_cons_zero, List.set_cons_succ, i64_w, i32_w]
    rfl
   exact norm_ (by simp only [putAll, Act.put, List.setIfInBounds_toArray, List.set_cons_zero, List.set_cons_succ] <;> rfl) (hJ1_3_4_8_9 (gb185, gb186) _ ⟨hHeld, BK147.out, BK148.out, BK167.out, BK168.out, BK185.out, BK186.out, GW185.out, GE185.out, NB147_185.out, NB185_147.out, NB148_185.out, NB185_148.out, NB167_185.out, NB185_167.out, NB168_185.out, NB185_168.out, NB186_185.out, NB185_186.out, GW186.out, GE186.out, NB147_186.out, NB186_147.out, NB148_186.out, NB186_148.out, NB167_186.out, NB186_167.out, NB168_186.out, NB186_168.out, HB.out⟩)
  intro hJ1_3_4_9
  refine join_ (σ := Nat × Nat) 6 #[true, true, true, true, false, false, false, false, true, true, false, false] (fun s_ => [(30, .agg #[.bool t169, .int .i64 t170, .int .i64 t171, .string t172]), (32, .agg #[.bool t173, .int .i64 t174, .int .i64 t175, .string t176]), (8, .pointer (some ⟨s_.1, 0, none⟩)), (9, .pointer (some ⟨s_.2, 0, none⟩))]) (fun s_ w' => (w'.cell? ⟨gb147, 0, none⟩ = some (.bool a0_0) ∧ w'.cell? ⟨gb147, 1, none⟩ = some (.int .i64 a0_1) ∧ w'.cell? ⟨gb147, 2, none⟩ = some (.int .i64 a0_2) ∧ w'.cell? ⟨gb147, 3, none⟩ = some (.string a0_3) ∧ w'.cell? ⟨gb148, 0, none⟩ = some (.bool a1_0) ∧ w'.cell? ⟨gb148, 1, none⟩ = some (.int .i64 a1_1) ∧ w'.cell? ⟨gb148, 2, none⟩ = some (.int .i64 a1_2) ∧ w'.cell? ⟨gb148, 3, none⟩ = some (.string a1_3)) ∧ (w'.heap[gb147]? = some (.cells #[.bool a0_0, .int .i64 a0_1, .int .i64 a0_2, .string a0_3] 23 (0, 0))) ∧ (w'.heap[gb148]? = some (.cells #[.bool a1_0, .int .i64 a1_1, .int .i64 a1_2, .string a1_3] 23 (0, 0))) ∧ (w'.heap[gb167]? = some (.cells #[.bool t159, .int .i64 t160, .int .i64 t161, .string t162] 26 (0, 0))) ∧ (w'.heap[gb168]? = some (.cells #[.bool t163, .int .i64 t164, .int .i64 t165, .string t166] 26 (0, 0))) ∧ (w'.heap[s_.1]? = some (.cells #[.bool false, .int .i64 0, .int .i64 0, .string (⟨#[]⟩ : ByteArray)] 26 (0, 0))) ∧ (w'.heap[s_.2]? = some (.cells #[.bool false, .int .i64 0, .int .i64 0, .string (⟨#[]⟩ : ByteArray)] 26 (0, 0))) ∧ (w.heap.size ≤ s_.1) ∧ (w.heap.size ≤ s_.1) ∧ (gb147 ≠ s_.1) ∧ (s_.1 ≠ gb147) ∧ (gb148 ≠ s_.1) ∧ (s_.1 ≠ gb148) ∧ (gb167 ≠ s_.1) ∧ (s_.1 ≠ gb167) ∧ (gb168 ≠ s_.1) ∧ (s_.1 ≠ gb168) ∧ (s_.2 ≠ s_.1) ∧ (s_.1 ≠ s_.2) ∧ (w.heap.size ≤ s_.2) ∧ (w.heap.size ≤ s_.2) ∧ (gb147 ≠ s_.2) ∧ (s_.2 ≠ gb147) ∧ (gb148 ≠ s_.2) ∧ (s_.2 ≠ gb148) ∧ (gb167 ≠ s_.2) ∧ (s_.2 ≠ gb167) ∧ (gb168 ≠ s_.2) ∧ (s_.2 ≠ gb168) ∧ (Below w.heap.size w w')) ?_ ?_
  ·
   skip
   rintro ⟨gb185, gb186⟩ w57 ⟨hS_, h0_, h1_, h2_, h3_, h4_, h5_, h6_, h7_, h8_, h9_, h10_, h11_, h12_, h13_, h14_, h15_, h16_, h17_, h18_, h19_, h20_, h21_, h22_, h23_, h24_, h25_, h26_, h27_, h28_⟩
   have BK185 := Aside0.mk h4_
   have BK186 := Aside0.mk h5_
   have GW185 := Aside0.mk h6_
   have GE185 := Aside0.mk h7_
   have NB147_185 := Aside0.mk h8_
   have NB185_147 := Aside0.mk h9_
   have NB148_185 := Aside0.mk h10_
   have NB185_148 := Aside0.mk h11_
   have NB167_185 := Aside0.mk h12_
   have NB185_167 := Aside0.mk h13_
   have NB168_185 := Aside0.mk h14_
   have NB185_168 := Aside0.mk h15_
   have NB186_185 := Aside0.mk h16_
   have NB185_186 := Aside0.mk h17_
   have GW186 := Aside0.mk h18_
   have GE186 := Aside0.mk h19_
   have NB147_186 := Aside0.mk h20_
   have NB186_147 := Aside0.mk h21_
   have NB148_186 := Aside0.mk h22_
   have NB186_148 := Aside0.mk h23_
   have NB167_186 := Aside0.mk h24_
   have NB186_167 := Aside0.mk h25_
   have NB168_186 := Aside0.mk h26_
   have NB186_168 := Aside0.mk h27_
   replace BK147 := Aside0.mk h0_
   replace BK148 := Aside0.mk h1_
   replace BK167 := Aside0.mk h2_
   replace BK168 := Aside0.mk h3_
   replace HB := Aside0.mk h28_
   clear h0_ h1_ h2_ h3_ h4_ h5_ h6_ h7_ h8_ h9_ h10_ h11_ h12_ h13_ h14_ h15_ h16_ h17_ h18_ h19_ h20_ h21_ h22_ h23_ h24_ h25_ h26_ h27_ h28_
   have hHeld : w57.cell? ⟨gb147, 0, none⟩ = some (.bool a0_0) ∧ w57.cell? ⟨gb147, 1, none⟩ = some (.int .i64 a0_1) ∧ w57.cell? ⟨gb147, 2, none⟩ = some (.int .i64 a0_2) ∧ w57.cell? ⟨gb147, 3, none⟩ = some (.string a0_3) ∧ w57.cell? ⟨gb148, 0, none⟩ = some (.bool a1_0) ∧ w57.cell? ⟨gb148, 1, none⟩ = some (.int .i64 a1_1) ∧ w57.cell? ⟨gb148, 2, none⟩ = some (.int .i64 a1_2) ∧ w57.cell? ⟨gb148, 3, none⟩ = some (.string a1_3) := hS_
   refine norm_ (a' := ?_) ?_ ?_
   rotate_left
   ·
    simp only [putAll, Act.put, List.setIfInBounds_toArray, List.set_cons_zero, List.set_cons_succ]
    rfl
   refine one_ (i := 4) (N := some 33) #[true, true, true, true, true, false, false, false, true, true, false, false] rfl rfl (one_of HT_.out (by kernel_rfl)) (by decide) (fun K hK => ?_)
   refine goes_ Try.func34 (by kernel_rfl) rfl #[.agg #[.bool t169, .int .i64 t170, .int .i64 t171, .string t172], .agg #[.bool t173, .int .i64 t174, .int .i64 t175, .string t176]] (by rfl) rfl rfl (by (try simp only [List.map_toArray, List.map_cons, List.map_nil]); first | done | rfl | (simp only [List.length_drop, List.length_take]; rfl)) ?_
   with_reducible refine (impl_RecPair.calls k t169 t170 t171 t172 t173 t174 t175 t176 t177 t178 t179 t180 t181 t182 t183 t184 _ A24.out).mono ?_
   rintro e w58 ⟨rfl, hb⟩
   refine ⟨_, rfl, ?_⟩
   replace BK147 := Aside0.mk (blk_below BK147.out hb)
   replace BK148 := Aside0.mk (blk_below BK148.out hb)
   replace BK167 := Aside0.mk (blk_below BK167.out hb)
   replace BK168 := Aside0.mk (blk_below BK168.out hb)
   replace BK185 := Aside0.mk (blk_below BK185.out hb)
   replace BK186 := Aside0.mk (blk_below BK186.out hb)
   replace HB := Aside0.mk (below_step HB.out hb)
   (try clear hb)
   (try clear hb2)
   (try clear hk)
   (try clear hi)
   refine hK.out _ _ ⟨b7_ BK147.out 0 rfl, b7_ BK147.out 1 rfl, b7_ BK147.out 2 rfl, b7_ BK147.out 3 rfl, b7_ BK148.out 0 rfl, b7_ BK148.out 1 rfl, b7_ BK148.out 2 rfl, b7_ BK148.out 3 rfl⟩ (fun hHeld => ?_)
   clear hK K
   refine norm_ (a' := ?_) ?_ ?_
   rotate_left
   ·
    show Act.put _ (some 33) _ = _
    simp only [Act.put, List.setIfInBounds_toArray, List.set_cons_zero, List.set_cons_succ, i64_w, i32_w]
    rfl
   refine pure_ (i := 5) (N := some 28) (v := ?_) (a' := ?_) #[true, true, true, true, true, true, false, false, true, true, false, false] rfl rfl (any_of HT_.out (by kernel_rfl)) (fun _ _ _ h => h) (Or.inl ⟨by rfl, ?_⟩) ?_ ?_
   rotate_left
   ·
    intro w'
    go_simp
    with_reducible rfl
   rotate_left
   ·
    simp only [Act.put, List.setIfInBounds_toArray, List.set_cons_zero, List.set_cons_succ, i64_w, i32_w]
    rfl
   refine pure_ (i := 6) (N := some 34) (v := ?_) (a' := ?_) #[true, true, true, true, true, true, true, false, true, true, false, false] rfl rfl (any_of HT_.out (by kernel_rfl)) (fun _ _ _ h => h) (Or.inl ⟨by rfl, ?_⟩) ?_ ?_
   rotate_left
   ·
    intro w'
    go_simp
    with_reducible rfl
   rotate_left
   ·
    simp only [Act.put, List.setIfInBounds_toArray, List.set_cons_zero, List.set_cons_succ, i64_w, i32_w]
    rfl
   refine pure_ (i := 7) (N := some 35) (v := ?_) (a' := ?_) #[true, true, true, true, true, true, true, true, true, true, false, false] rfl rfl (any_of HT_.out (by kernel_rfl)) (fun _ _ _ h => h) (Or.inl ⟨by rfl, ?_⟩) ?_ ?_
   rotate_left
   ·
    intro w'
    go_simp
    with_reducible rfl
   rotate_left
   ·
    simp only [Act.put, List.setIfInBounds_toArray, List.set_cons_zero, List.set_cons_succ, i64_w, i32_w]
    rfl
   exact norm_ (by simp only [putAll, Act.put, List.setIfInBounds_toArray, List.set_cons_zero, List.set_cons_succ] <;> rfl) (hJ1_3_4_8_9 (gb185, gb186) _ ⟨hHeld, BK147.out, BK148.out, BK167.out, BK168.out, BK185.out, BK186.out, GW185.out, GE185.out, NB147_185.out, NB185_147.out, NB148_185.out, NB185_148.out, NB167_185.out, NB185_167.out, NB168_185.out, NB185_168.out, NB186_185.out, NB185_186.out, GW186.out, GE186.out, NB147_186.out, NB186_147.out, NB148_186.out, NB186_148.out, NB167_186.out, NB186_167.out, NB168_186.out, NB186_168.out, HB.out⟩)
  intro hJ1_3_8_9
  refine join_ (σ := Unit) 4 #[true, true, true, true, true, true, true, true, false, false, false, false] (fun s_ => [(30, .agg #[.bool t169, .int .i64 t170, .int .i64 t171, .string t172]), (32, .agg #[.bool t173, .int .i64 t174, .int .i64 t175, .string t176]), (33, .tuple #[.agg #[.bool t177, .int .i64 t178, .int .i64 t179, .string t180], .agg #[.bool t181, .int .i64 t182, .int .i64 t183, .string t184]]), (28, .tuple #[.agg #[.bool t177, .int .i64 t178, .int .i64 t179, .string t180], .agg #[.bool t181, .int .i64 t182, .int .i64 t183, .string t184]]), (34, .agg #[.bool t177, .int .i64 t178, .int .i64 t179, .string t180]), (35, .agg #[.bool t181, .int .i64 t182, .int .i64 t183, .string t184])]) (fun s_ w' => (w'.cell? ⟨gb147, 0, none⟩ = some (.bool a0_0) ∧ w'.cell? ⟨gb147, 1, none⟩ = some (.int .i64 a0_1) ∧ w'.cell? ⟨gb147, 2, none⟩ = some (.int .i64 a0_2) ∧ w'.cell? ⟨gb147, 3, none⟩ = some (.string a0_3) ∧ w'.cell? ⟨gb148, 0, none⟩ = some (.bool a1_0) ∧ w'.cell? ⟨gb148, 1, none⟩ = some (.int .i64 a1_1) ∧ w'.cell? ⟨gb148, 2, none⟩ = some (.int .i64 a1_2) ∧ w'.cell? ⟨gb148, 3, none⟩ = some (.string a1_3)) ∧ (w'.heap[gb147]? = some (.cells #[.bool a0_0, .int .i64 a0_1, .int .i64 a0_2, .string a0_3] 23 (0, 0))) ∧ (w'.heap[gb148]? = some (.cells #[.bool a1_0, .int .i64 a1_1, .int .i64 a1_2, .string a1_3] 23 (0, 0))) ∧ (w'.heap[gb167]? = some (.cells #[.bool t159, .int .i64 t160, .int .i64 t161, .string t162] 26 (0, 0))) ∧ (w'.heap[gb168]? = some (.cells #[.bool t163, .int .i64 t164, .int .i64 t165, .string t166] 26 (0, 0))) ∧ (Below w.heap.size w w')) ?_ ?_
  ·
   skip
   rintro _ w56 ⟨hS_, h0_, h1_, h2_, h3_, h4_⟩
   replace BK147 := Aside0.mk h0_
   replace BK148 := Aside0.mk h1_
   replace BK167 := Aside0.mk h2_
   replace BK168 := Aside0.mk h3_
   replace HB := Aside0.mk h4_
   clear h0_ h1_ h2_ h3_ h4_
   have hHeld : w56.cell? ⟨gb147, 0, none⟩ = some (.bool a0_0) ∧ w56.cell? ⟨gb147, 1, none⟩ = some (.int .i64 a0_1) ∧ w56.cell? ⟨gb147, 2, none⟩ = some (.int .i64 a0_2) ∧ w56.cell? ⟨gb147, 3, none⟩ = some (.string a0_3) ∧ w56.cell? ⟨gb148, 0, none⟩ = some (.bool a1_0) ∧ w56.cell? ⟨gb148, 1, none⟩ = some (.int .i64 a1_1) ∧ w56.cell? ⟨gb148, 2, none⟩ = some (.int .i64 a1_2) ∧ w56.cell? ⟨gb148, 3, none⟩ = some (.string a1_3) := hS_
   refine norm_ (a' := ?_) ?_ ?_
   rotate_left
   ·
    simp only [putAll, Act.put, List.setIfInBounds_toArray, List.set_cons_zero, List.set_cons_succ]
    rfl
   refine two_ (i := 8) (j := 9) (Ni := some 8) (Nj := some 9) #[true, true, true, true, true, true, true, true, true, false, false, false] #[true, true, true, true, true, true, true, true, false, true, false, false] rfl rfl rfl rfl (two_of HT_.out (by kernel_rfl)) (by decide) (by decide) (fun K hK => ?_) (fun K hK => ?_)
   ·
    skip
    refine box_step ?hg (N := 8) ?hd (cs := #[.bool false, .int .i64 0, .int .i64 0, .string (⟨#[]⟩ : ByteArray)]) (t := 26) ?hr ?_; (case hd => rfl); (case hg => rfl); (case hr => first | (go_simp; done) | (go_simp; rfl))
    intro gb185 hg w57 hbox hb
    have BK185 := Aside0.mk (hbox)
    have GW185 := Aside0.mk ((by rw [hg]; exact (below_size HB.out) : w.heap.size ≤ gb185))
    have GE185 := Aside0.mk ((by rw [hg]; exact (below_size HB.out) : w.heap.size ≤ gb185))
    have NB147_185 := Aside0.mk ((by rw [hg]; exact Nat.ne_of_lt (blk_lt BK147.out) : gb147 ≠ gb185))
    have NB185_147 := Aside0.mk ((by rw [hg]; exact Nat.ne_of_gt (blk_lt BK147.out) : gb185 ≠ gb147))
    have NB148_185 := Aside0.mk ((by rw [hg]; exact Nat.ne_of_lt (blk_lt BK148.out) : gb148 ≠ gb185))
    have NB185_148 := Aside0.mk ((by rw [hg]; exact Nat.ne_of_gt (blk_lt BK148.out) : gb185 ≠ gb148))
    have NB167_185 := Aside0.mk ((by rw [hg]; exact Nat.ne_of_lt (blk_lt BK167.out) : gb167 ≠ gb185))
    have NB185_167 := Aside0.mk ((by rw [hg]; exact Nat.ne_of_gt (blk_lt BK167.out) : gb185 ≠ gb167))
    have NB168_185 := Aside0.mk ((by rw [hg]; exact Nat.ne_of_lt (blk_lt BK168.out) : gb168 ≠ gb185))
    have NB185_168 := Aside0.mk ((by rw [hg]; exact Nat.ne_of_gt (blk_lt BK168.out) : gb185 ≠ gb168))
    replace BK147 := Aside0.mk (blk_below BK147.out hb)
    replace BK148 := Aside0.mk (blk_below BK148.out hb)
    replace BK167 := Aside0.mk (blk_below BK167.out hb)
    replace BK168 := Aside0.mk (blk_below BK168.out hb)
    replace HB := Aside0.mk (below_step HB.out hb)
    clear hb hbox hg
    refine hK.out _ _ ⟨b7_ BK147.out 0 rfl, b7_ BK147.out 1 rfl, b7_ BK147.out 2 rfl, b7_ BK147.out 3 rfl, b7_ BK148.out 0 rfl, b7_ BK148.out 1 rfl, b7_ BK148.out 2 rfl, b7_ BK148.out 3 rfl⟩ (fun hHeld => ?_)
    clear hK K
    refine norm_ (a' := ?_) ?_ ?_
    rotate_left
    ·
     show Act.put _ (some 8) _ = _
     simp only [Act.put, List.setIfInBounds_toArray, List.set_cons_zero, List.set_cons_succ, i64_w, i32_w]
     rfl
    exact norm_ (by simp only [putAll, Act.put, List.setIfInBounds_toArray, List.set_cons_zero, List.set_cons_succ] <;> rfl) (hJ1_3_4_8 (gb185) _ ⟨hHeld, BK147.out, BK148.out, BK167.out, BK168.out, BK185.out, GW185.out, GE185.out, NB147_185.out, NB185_147.out, NB148_185.out, NB185_148.out, NB167_185.out, NB185_167.out, NB168_185.out, NB185_168.out, HB.out⟩)
   skip
   refine box_step ?hg (N := 9) ?hd (cs := #[.bool false, .int .i64 0, .int .i64 0, .string (⟨#[]⟩ : ByteArray)]) (t := 26) ?hr ?_; (case hd => rfl); (case hg => rfl); (case hr => first | (go_simp; done) | (go_simp; rfl))
   intro gb186 hg w57 hbox hb
   have BK186 := Aside0.mk (hbox)
   have GW186 := Aside0.mk ((by rw [hg]; exact (below_size HB.out) : w.heap.size ≤ gb186))
   have GE186 := Aside0.mk ((by rw [hg]; exact (below_size HB.out) : w.heap.size ≤ gb186))
   have NB147_186 := Aside0.mk ((by rw [hg]; exact Nat.ne_of_lt (blk_lt BK147.out) : gb147 ≠ gb186))
   have NB186_147 := Aside0.mk ((by rw [hg]; exact Nat.ne_of_gt (blk_lt BK147.out) : gb186 ≠ gb147))
   have NB148_186 := Aside0.mk ((by rw [hg]; exact Nat.ne_of_lt (blk_lt BK148.out) : gb148 ≠ gb186))
   have NB186_148 := Aside0.mk ((by rw [hg]; exact Nat.ne_of_gt (blk_lt BK148.out) : gb186 ≠ gb148))
   have NB167_186 := Aside0.mk ((by rw [hg]; exact Nat.ne_of_lt (blk_lt BK167.out) : gb167 ≠ gb186))
   have NB186_167 := Aside0.mk ((by rw [hg]; exact Nat.ne_of_gt (blk_lt BK167.out) : gb186 ≠ gb167))
   have NB168_186 := Aside0.mk ((by rw [hg]; exact Nat.ne_of_lt (blk_lt BK168.out) : gb168 ≠ gb186))
   have NB186_168 := Aside0.mk ((by rw [hg]; exact Nat.ne_of_gt (blk_lt BK168.out) : gb186 ≠ gb168))
   replace BK147 := Aside0.mk (blk_below BK147.out hb)
   replace BK148 := Aside0.mk (blk_below BK148.out hb)
   replace BK167 := Aside0.mk (blk_below BK167.out hb)
   replace BK168 := Aside0.mk (blk_below BK168.out hb)
   replace HB := Aside0.mk (below_step HB.out hb)
   clear hb hbox hg
   refine hK.out _ _ ⟨b7_ BK147.out 0 rfl, b7_ BK147.out 1 rfl, b7_ BK147.out 2 rfl, b7_ BK147.out 3 rfl, b7_ BK148.out 0 rfl, b7_ BK148.out 1 rfl, b7_ BK148.out 2 rfl, b7_ BK148.out 3 rfl⟩ (fun hHeld => ?_)
   clear hK K
   refine norm_ (a' := ?_) ?_ ?_
   rotate_left
   ·
    show Act.put _ (some 9) _ = _
    simp only [Act.put, List.setIfInBounds_toArray, List.set_cons_zero, List.set_cons_succ, i64_w, i32_w]
    rfl
   exact norm_ (by simp only [putAll, Act.put, List.setIfInBounds_toArray, List.set_cons_zero, List.set_cons_succ] <;> rfl) (hJ1_3_4_9 (gb186) _ ⟨hHeld, BK147.out, BK148.out, BK167.out, BK168.out, BK186.out, GW186.out, GE186.out, NB147_186.out, NB186_147.out, NB148_186.out, NB186_148.out, NB167_186.out, NB186_167.out, NB168_186.out, NB186_168.out, HB.out⟩)
  intro hJ1_3_4
  refine join_ (σ := Nat) 7 #[true, true, true, true, false, false, false, false, true, false, false, false] (fun s_ => [(30, .agg #[.bool t169, .int .i64 t170, .int .i64 t171, .string t172]), (32, .agg #[.bool t173, .int .i64 t174, .int .i64 t175, .string t176]), (8, .pointer (some ⟨s_, 0, none⟩))]) (fun s_ w' => (w'.cell? ⟨gb147, 0, none⟩ = some (.bool a0_0) ∧ w'.cell? ⟨gb147, 1, none⟩ = some (.int .i64 a0_1) ∧ w'.cell? ⟨gb147, 2, none⟩ = some (.int .i64 a0_2) ∧ w'.cell? ⟨gb147, 3, none⟩ = some (.string a0_3) ∧ w'.cell? ⟨gb148, 0, none⟩ = some (.bool a1_0) ∧ w'.cell? ⟨gb148, 1, none⟩ = some (.int .i64 a1_1) ∧ w'.cell? ⟨gb148, 2, none⟩ = some (.int .i64 a1_2) ∧ w'.cell? ⟨gb148, 3, none⟩ = some (.string a1_3)) ∧ (w'.heap[gb147]? = some (.cells #[.bool a0_0, .int .i64 a0_1, .int .i64 a0_2, .string a0_3] 23 (0, 0))) ∧ (w'.heap[gb148]? = some (.cells #[.bool a1_0, .int .i64 a1_1, .int .i64 a1_2, .string a1_3] 23 (0, 0))) ∧ (w'.heap[gb167]? = some (.cells #[.bool t159, .int .i64 t160, .int .i64 t161, .string t162] 26 (0, 0))) ∧ (w'.heap[gb168]? = some (.cells #[.bool t163, .int .i64 t164, .int .i64 t165, .string t166] 26 (0, 0))) ∧ (w'.heap[s_]? = some (.cells #[.bool false, .int .i64 0, .int .i64 0, .string (⟨#[]⟩ : ByteArray)] 26 (0, 0))) ∧ (w.heap.size ≤ s_) ∧ (w.heap.size ≤ s_) ∧ (gb147 ≠ s_) ∧ (s_ ≠ gb147) ∧ (gb148 ≠ s_) ∧ (s_ ≠ gb148) ∧ (gb167 ≠ s_) ∧ (s_ ≠ gb167) ∧ (gb168 ≠ s_) ∧ (s_ ≠ gb168) ∧ (Below w.heap.size w w')) ?_ ?_
  ·
   skip
   rintro gb185 w56 ⟨hS_, h0_, h1_, h2_, h3_, h4_, h5_, h6_, h7_, h8_, h9_, h10_, h11_, h12_, h13_, h14_, h15_⟩
   have BK185 := Aside0.mk h4_
   have GW185 := Aside0.mk h5_
   have GE185 := Aside0.mk h6_
   have NB147_185 := Aside0.mk h7_
   have NB185_147 := Aside0.mk h8_
   have NB148_185 := Aside0.mk h9_
   have NB185_148 := Aside0.mk h10_
   have NB167_185 := Aside0.mk h11_
   have NB185_167 := Aside0.mk h12_
   have NB168_185 := Aside0.mk h13_
   have NB185_168 := Aside0.mk h14_
   replace BK147 := Aside0.mk h0_
   replace BK148 := Aside0.mk h1_
   replace BK167 := Aside0.mk h2_
   replace BK168 := Aside0.mk h3_
   replace HB := Aside0.mk h15_
   clear h0_ h1_ h2_ h3_ h4_ h5_ h6_ h7_ h8_ h9_ h10_ h11_ h12_ h13_ h14_ h15_
   have hHeld : w56.cell? ⟨gb147, 0, none⟩ = some (.bool a0_0) ∧ w56.cell? ⟨gb147, 1, none⟩ = some (.int .i64 a0_1) ∧ w56.cell? ⟨gb147, 2, none⟩ = some (.int .i64 a0_2) ∧ w56.cell? ⟨gb147, 3, none⟩ = some (.string a0_3) ∧ w56.cell? ⟨gb148, 0, none⟩ = some (.bool a1_0) ∧ w56.cell? ⟨gb148, 1, none⟩ = some (.int .i64 a1_1) ∧ w56.cell? ⟨gb148, 2, none⟩ = some (.int .i64 a1_2) ∧ w56.cell? ⟨gb148, 3, none⟩ = some (.string a1_3) := hS_
   refine norm_ (a' := ?_) ?_ ?_
   rotate_left
   ·
    simp only [putAll, Act.put, List.setIfInBounds_toArray, List.set_cons_zero, List.set_cons_succ]
    rfl
   refine two_ (i := 4) (j := 9) (Ni := some 33) (Nj := some 9) #[true, true, true, true, true, false, false, false, true, false, false, false] #[true, true, true, true, false, false, false, false, true, true, false, false] rfl rfl rfl rfl (two_of HT_.out (by kernel_rfl)) (by decide) (by decide) (fun K hK => ?_) (fun K hK => ?_)
   rotate_left
   ·
    skip
    refine box_step ?hg (N := 9) ?hd (cs := #[.bool false, .int .i64 0, .int .i64 0, .string (⟨#[]⟩ : ByteArray)]) (t := 26) ?hr ?_; (case hd => rfl); (case hg => rfl); (case hr => first | (go_simp; done) | (go_simp; rfl))
    intro gb186 hg w57 hbox hb
    have BK186 := Aside0.mk (hbox)
    have GW186 := Aside0.mk ((by rw [hg]; exact (below_size HB.out) : w.heap.size ≤ gb186))
    have GE186 := Aside0.mk ((by rw [hg]; exact (below_size HB.out) : w.heap.size ≤ gb186))
    have NB147_186 := Aside0.mk ((by rw [hg]; exact Nat.ne_of_lt (blk_lt BK147.out) : gb147 ≠ gb186))
    have NB186_147 := Aside0.mk ((by rw [hg]; exact Nat.ne_of_gt (blk_lt BK147.out) : gb186 ≠ gb147))
    have NB148_186 := Aside0.mk ((by rw [hg]; exact Nat.ne_of_lt (blk_lt BK148.out) : gb148 ≠ gb186))
    have NB186_148 := Aside0.mk ((by rw [hg]; exact Nat.ne_of_gt (blk_lt BK148.out) : gb186 ≠ gb148))
    have NB167_186 := Aside0.mk ((by rw [hg]; exact Nat.ne_of_lt (blk_lt BK167.out) : gb167 ≠ gb186))
    have NB186_167 := Aside0.mk ((by rw [hg]; exact Nat.ne_of_gt (blk_lt BK167.out) : gb186 ≠ gb167))
    have NB168_186 := Aside0.mk ((by rw [hg]; exact Nat.ne_of_lt (blk_lt BK168.out) : gb168 ≠ gb186))
    have NB186_168 := Aside0.mk ((by rw [hg]; exact Nat.ne_of_gt (blk_lt BK168.out) : gb186 ≠ gb168))
    have NB185_186 := Aside0.mk ((by rw [hg]; exact Nat.ne_of_lt (blk_lt BK185.out) : gb185 ≠ gb186))
    have NB186_185 := Aside0.mk ((by rw [hg]; exact Nat.ne_of_gt (blk_lt BK185.out) : gb186 ≠ gb185))
    replace BK147 := Aside0.mk (blk_below BK147.out hb)
    replace BK148 := Aside0.mk (blk_below BK148.out hb)
    replace BK167 := Aside0.mk (blk_below BK167.out hb)
    replace BK168 := Aside0.mk (blk_below BK168.out hb)
    replace BK185 := Aside0.mk (blk_below BK185.out hb)
    replace HB := Aside0.mk (below_step HB.out hb)
    clear hb hbox hg
    refine hK.out _ _ ⟨b7_ BK147.out 0 rfl, b7_ BK147.out 1 rfl, b7_ BK147.out 2 rfl, b7_ BK147.out 3 rfl, b7_ BK148.out 0 rfl, b7_ BK148.out 1 rfl, b7_ BK148.out 2 rfl, b7_ BK148.out 3 rfl⟩ (fun hHeld => ?_)
    clear hK K
    refine norm_ (a' := ?_) ?_ ?_
    rotate_left
    ·
     show Act.put _ (some 9) _ = _
     simp only [Act.put, List.setIfInBounds_toArray, List.set_cons_zero, List.set_cons_succ, i64_w, i32_w]
     rfl
    exact norm_ (by simp only [putAll, Act.put, List.setIfInBounds_toArray, List.set_cons_zero, List.set_cons_succ] <;> rfl) (hJ1_3_8_9 (gb185, gb186) _ ⟨hHeld, BK147.out, BK148.out, BK167.out, BK168.out, BK185.out, BK186.out, GW185.out, GE185.out, NB147_185.out, NB185_147.out, NB148_185.out, NB185_148.out, NB167_185.out, NB185_167.out, NB168_185.out, NB185_168.out, NB186_185.out, NB185_186.out, GW186.out, GE186.out, NB147_186.out, NB186_147.out, NB148_186.out, NB186_148.out, NB167_186.out, NB186_167.out, NB168_186.out, NB186_168.out, HB.out⟩)
   skip
   refine goes_ Try.func34 (by kernel_rfl) rfl #[.agg #[.bool t169, .int .i64 t170, .int .i64 t171, .string t172], .agg #[.bool t173, .int .i64 t174, .int .i64 t175, .string t176]] (by rfl) rfl rfl (by (try simp only [List.map_toArray, List.map_cons, List.map_nil]); first | done | rfl | (simp only [List.length_drop, List.length_take]; rfl)) ?_
   with_reducible refine (impl_RecPair.calls k t169 t170 t171 t172 t173 t174 t175 t176 t177 t178 t179 t180 t181 t182 t183 t184 _ A24.out).mono ?_
   rintro e w57 ⟨rfl, hb⟩
   refine ⟨_, rfl, ?_⟩
   replace BK147 := Aside0.mk (blk_below BK147.out hb)
   replace BK148 := Aside0.mk (blk_below BK148.out hb)
   replace BK167 := Aside0.mk (blk_below BK167.out hb)
   replace BK168 := Aside0.mk (blk_below BK168.out hb)
   replace BK185 := Aside0.mk (blk_below BK185.out hb)
   replace HB := Aside0.mk (below_step HB.out hb)
   (try clear hb)
   (try clear hb2)
   (try clear hk)
   (try clear hi)
   refine hK.out _ _ ⟨b7_ BK147.out 0 rfl, b7_ BK147.out 1 rfl, b7_ BK147.out 2 rfl, b7_ BK147.out 3 rfl, b7_ BK148.out 0 rfl, b7_ BK148.out 1 rfl, b7_ BK148.out 2 rfl, b7_ BK148.out 3 rfl⟩ (fun hHeld => ?_)
   clear hK K
   refine norm_ (a' := ?_) ?_ ?_
   rotate_left
   ·
    show Act.put _ (some 33) _ = _
    simp only [Act.put, List.setIfInBounds_toArray, List.set_cons_zero, List.set_cons_succ, i64_w, i32_w]
    rfl
   refine pure_ (i := 5) (N := some 28) (v := ?_) (a' := ?_) #[true, true, true, true, true, true, false, false, true, false, false, false] rfl rfl (any_of HT_.out (by kernel_rfl)) (fun _ _ _ h => h) (Or.inl ⟨by rfl, ?_⟩) ?_ ?_
   rotate_left
   ·
    intro w'
    go_simp
    with_reducible rfl
   rotate_left
   ·
    simp only [Act.put, List.setIfInBounds_toArray, List.set_cons_zero, List.set_cons_succ, i64_w, i32_w]
    rfl
   refine pure_ (i := 6) (N := some 34) (v := ?_) (a' := ?_) #[true, true, true, true, true, true, true, false, true, false, false, false] rfl rfl (any_of HT_.out (by kernel_rfl)) (fun _ _ _ h => h) (Or.inl ⟨by rfl, ?_⟩) ?_ ?_
   rotate_left
   ·
    intro w'
    go_simp
    with_reducible rfl
   rotate_left
   ·
    simp only [Act.put, List.setIfInBounds_toArray, List.set_cons_zero, List.set_cons_succ, i64_w, i32_w]
    rfl
   refine pure_ (i := 7) (N := some 35) (v := ?_) (a' := ?_) #[true, true, true, true, true, true, true, true, true, false, false, false] rfl rfl (any_of HT_.out (by kernel_rfl)) (fun _ _ _ h => h) (Or.inl ⟨by rfl, ?_⟩) ?_ ?_
   rotate_left
   ·
    intro w'
    go_simp
    with_reducible rfl
   rotate_left
   ·
    simp only [Act.put, List.setIfInBounds_toArray, List.set_cons_zero, List.set_cons_succ, i64_w, i32_w]
    rfl
   exact norm_ (by simp only [putAll, Act.put, List.setIfInBounds_toArray, List.set_cons_zero, List.set_cons_succ] <;> rfl) (hJ1_3_4_8 (gb185) _ ⟨hHeld, BK147.out, BK148.out, BK167.out, BK168.out, BK185.out, GW185.out, GE185.out, NB147_185.out, NB185_147.out, NB148_185.out, NB185_148.out, NB167_185.out, NB185_167.out, NB168_185.out, NB185_168.out, HB.out⟩)
  intro hJ1_3_8
  refine join_ (σ := Nat) 7 #[true, true, true, true, false, false, false, false, false, true, false, false] (fun s_ => [(30, .agg #[.bool t169, .int .i64 t170, .int .i64 t171, .string t172]), (32, .agg #[.bool t173, .int .i64 t174, .int .i64 t175, .string t176]), (9, .pointer (some ⟨s_, 0, none⟩))]) (fun s_ w' => (w'.cell? ⟨gb147, 0, none⟩ = some (.bool a0_0) ∧ w'.cell? ⟨gb147, 1, none⟩ = some (.int .i64 a0_1) ∧ w'.cell? ⟨gb147, 2, none⟩ = some (.int .i64 a0_2) ∧ w'.cell? ⟨gb147, 3, none⟩ = some (.string a0_3) ∧ w'.cell? ⟨gb148, 0, none⟩ = some (.bool a1_0) ∧ w'.cell? ⟨gb148, 1, none⟩ = some (.int .i64 a1_1) ∧ w'.cell? ⟨gb148, 2, none⟩ = some (.int .i64 a1_2) ∧ w'.cell? ⟨gb148, 3, none⟩ = some (.string a1_3)) ∧ (w'.heap[gb147]? = some (.cells #[.bool a0_0, .int .i64 a0_1, .int .i64 a0_2, .string a0_3] 23 (0, 0))) ∧ (w'.heap[gb148]? = some (.cells #[.bool a1_0, .int .i64 a1_1, .int .i64 a1_2, .string a1_3] 23 (0, 0))) ∧ (w'.heap[gb167]? = some (.cells #[.bool t159, .int .i64 t160, .int .i64 t161, .string t162] 26 (0, 0))) ∧ (w'.heap[gb168]? = some (.cells #[.bool t163, .int .i64 t164, .int .i64 t165, .string t166] 26 (0, 0))) ∧ (w'.heap[s_]? = some (.cells #[.bool false, .int .i64 0, .int .i64 0, .string (⟨#[]⟩ : ByteArray)] 26 (0, 0))) ∧ (w.heap.size ≤ s_) ∧ (w.heap.size ≤ s_) ∧ (gb147 ≠ s_) ∧ (s_ ≠ gb147) ∧ (gb148 ≠ s_) ∧ (s_ ≠ gb148) ∧ (gb167 ≠ s_) ∧ (s_ ≠ gb167) ∧ (gb168 ≠ s_) ∧ (s_ ≠ gb168) ∧ (Below w.heap.size w w')) ?_ ?_
  ·
   skip
   rintro gb186 w56 ⟨hS_, h0_, h1_, h2_, h3_, h4_, h5_, h6_, h7_, h8_, h9_, h10_, h11_, h12_, h13_, h14_, h15_⟩
   have BK186 := Aside0.mk h4_
   have GW186 := Aside0.mk h5_
   have GE186 := Aside0.mk h6_
   have NB147_186 := Aside0.mk h7_
   have NB186_147 := Aside0.mk h8_
   have NB148_186 := Aside0.mk h9_
   have NB186_148 := Aside0.mk h10_
   have NB167_186 := Aside0.mk h11_
   have NB186_167 := Aside0.mk h12_
   have NB168_186 := Aside0.mk h13_
   have NB186_168 := Aside0.mk h14_
   replace BK147 := Aside0.mk h0_
   replace BK148 := Aside0.mk h1_
   replace BK167 := Aside0.mk h2_
   replace BK168 := Aside0.mk h3_
   replace HB := Aside0.mk h15_
   clear h0_ h1_ h2_ h3_ h4_ h5_ h6_ h7_ h8_ h9_ h10_ h11_ h12_ h13_ h14_ h15_
   have hHeld : w56.cell? ⟨gb147, 0, none⟩ = some (.bool a0_0) ∧ w56.cell? ⟨gb147, 1, none⟩ = some (.int .i64 a0_1) ∧ w56.cell? ⟨gb147, 2, none⟩ = some (.int .i64 a0_2) ∧ w56.cell? ⟨gb147, 3, none⟩ = some (.string a0_3) ∧ w56.cell? ⟨gb148, 0, none⟩ = some (.bool a1_0) ∧ w56.cell? ⟨gb148, 1, none⟩ = some (.int .i64 a1_1) ∧ w56.cell? ⟨gb148, 2, none⟩ = some (.int .i64 a1_2) ∧ w56.cell? ⟨gb148, 3, none⟩ = some (.string a1_3) := hS_
   refine norm_ (a' := ?_) ?_ ?_
   rotate_left
   ·
    simp only [putAll, Act.put, List.setIfInBounds_toArray, List.set_cons_zero, List.set_cons_succ]
    rfl
   refine two_ (i := 4) (j := 8) (Ni := some 33) (Nj := some 8) #[true, true, true, true, true, false, false, false, false, true, false, false] #[true, true, true, true, false, false, false, false, true, true, false, false] rfl rfl rfl rfl (two_of HT_.out (by kernel_rfl)) (by decide) (by decide) (fun K hK => ?_) (fun K hK => ?_)
   rotate_left
   ·
    skip
    refine box_step ?hg (N := 8) ?hd (cs := #[.bool false, .int .i64 0, .int .i64 0, .string (⟨#[]⟩ : ByteArray)]) (t := 26) ?hr ?_; (case hd => rfl); (case hg => rfl); (case hr => first | (go_simp; done) | (go_simp; rfl))
    intro gb185 hg w57 hbox hb
    have BK185 := Aside0.mk (hbox)
    have GW185 := Aside0.mk ((by rw [hg]; exact (below_size HB.out) : w.heap.size ≤ gb185))
    have GE185 := Aside0.mk ((by rw [hg]; exact (below_size HB.out) : w.heap.size ≤ gb185))
    have NB147_185 := Aside0.mk ((by rw [hg]; exact Nat.ne_of_lt (blk_lt BK147.out) : gb147 ≠ gb185))
    have NB185_147 := Aside0.mk ((by rw [hg]; exact Nat.ne_of_gt (blk_lt BK147.out) : gb185 ≠ gb147))
    have NB148_185 := Aside0.mk ((by rw [hg]; exact Nat.ne_of_lt (blk_lt BK148.out) : gb148 ≠ gb185))
    have NB185_148 := Aside0.mk ((by rw [hg]; exact Nat.ne_of_gt (blk_lt BK148.out) : gb185 ≠ gb148))
    have NB167_185 := Aside0.mk ((by rw [hg]; exact Nat.ne_of_lt (blk_lt BK167.out) : gb167 ≠ gb185))
    have NB185_167 := Aside0.mk ((by rw [hg]; exact Nat.ne_of_gt (blk_lt BK167.out) : gb185 ≠ gb167))
    have NB168_185 := Aside0.mk ((by rw [hg]; exact Nat.ne_of_lt (blk_lt BK168.out) : gb168 ≠ gb185))
    have NB185_168 := Aside0.mk ((by rw [hg]; exact Nat.ne_of_gt (blk_lt BK168.out) : gb185 ≠ gb168))
    have NB186_185 := Aside0.mk ((by rw [hg]; exact Nat.ne_of_lt (blk_lt BK186.out) : gb186 ≠ gb185))
    have NB185_186 := Aside0.mk ((by rw [hg]; exact Nat.ne_of_gt (blk_lt BK186.out) : gb185 ≠ gb186))
    replace BK147 := Aside0.mk (blk_below BK147.out hb)
    replace BK148 := Aside0.mk (blk_below BK148.out hb)
    replace BK167 := Aside0.mk (blk_below BK167.out hb)
    replace BK168 := Aside0.mk (blk_below BK168.out hb)
    replace BK186 := Aside0.mk (blk_below BK186.out hb)
    replace HB := Aside0.mk (below_step HB.out hb)
    clear hb hbox hg
    refine hK.out _ _ ⟨b7_ BK147.out 0 rfl, b7_ BK147.out 1 rfl, b7_ BK147.out 2 rfl, b7_ BK147.out 3 rfl, b7_ BK148.out 0 rfl, b7_ BK148.out 1 rfl, b7_ BK148.out 2 rfl, b7_ BK148.out 3 rfl⟩ (fun hHeld => ?_)
    clear hK K
    refine norm_ (a' := ?_) ?_ ?_
    rotate_left
    ·
     show Act.put _ (some 8) _ = _
     simp only [Act.put, List.setIfInBounds_toArray, List.set_cons_zero, List.set_cons_succ, i64_w, i32_w]
     rfl
    exact norm_ (by simp only [putAll, Act.put, List.setIfInBounds_toArray, List.set_cons_zero, List.set_cons_succ] <;> rfl) (hJ1_3_8_9 (gb185, gb186) _ ⟨hHeld, BK147.out, BK148.out, BK167.out, BK168.out, BK185.out, BK186.out, GW185.out, GE185.out, NB147_185.out, NB185_147.out, NB148_185.out, NB185_148.out, NB167_185.out, NB185_167.out, NB168_185.out, NB185_168.out, NB186_185.out, NB185_186.out, GW186.out, GE186.out, NB147_186.out, NB186_147.out, NB148_186.out, NB186_148.out, NB167_186.out, NB186_167.out, NB168_186.out, NB186_168.out, HB.out⟩)
   skip
   refine goes_ Try.func34 (by kernel_rfl) rfl #[.agg #[.bool t169, .int .i64 t170, .int .i64 t171, .string t172], .agg #[.bool t173, .int .i64 t174, .int .i64 t175, .string t176]] (by rfl) rfl rfl (by (try simp only [List.map_toArray, List.map_cons, List.map_nil]); first | done | rfl | (simp only [List.length_drop, List.length_take]; rfl)) ?_
   with_reducible refine (impl_RecPair.calls k t169 t170 t171 t172 t173 t174 t175 t176 t177 t178 t179 t180 t181 t182 t183 t184 _ A24.out).mono ?_
   rintro e w57 ⟨rfl, hb⟩
   refine ⟨_, rfl, ?_⟩
   replace BK147 := Aside0.mk (blk_below BK147.out hb)
   replace BK148 := Aside0.mk (blk_below BK148.out hb)
   replace BK167 := Aside0.mk (blk_below BK167.out hb)
   replace BK168 := Aside0.mk (blk_below BK168.out hb)
   replace BK186 := Aside0.mk (blk_below BK186.out hb)
   replace HB := Aside0.mk (below_step HB.out hb)
   (try clear hb)
   (try clear hb2)
   (try clear hk)
   (try clear hi)
   refine hK.out _ _ ⟨b7_ BK147.out 0 rfl, b7_ BK147.out 1 rfl, b7_ BK147.out 2 rfl, b7_ BK147.out 3 rfl, b7_ BK148.out 0 rfl, b7_ BK148.out 1 rfl, b7_ BK148.out 2 rfl, b7_ BK148.out 3 rfl⟩ (fun hHeld => ?_)
   clear hK K
   refine norm_ (a' := ?_) ?_ ?_
   rotate_left
   ·
    show Act.put _ (some 33) _ = _
    simp only [Act.put, List.setIfInBounds_toArray, List.set_cons_zero, List.set_cons_succ, i64_w, i32_w]
    rfl
   refine pure_ (i := 5) (N := some 28) (v := ?_) (a' := ?_) #[true, true, true, true, true, true, false, false, false, true, false, false] rfl rfl (any_of HT_.out (by kernel_rfl)) (fun _ _ _ h => h) (Or.inl ⟨by rfl, ?_⟩) ?_ ?_
   rotate_left
   ·
    intro w'
    go_simp
    with_reducible rfl
   rotate_left
   ·
    simp only [Act.put, List.setIfInBounds_toArray, List.set_cons_zero, List.set_cons_succ, i64_w, i32_w]
    rfl
   refine pure_ (i := 6) (N := some 34) (v := ?_) (a' := ?_) #[true, true, true, true, true, true, true, false, false, true, false, false] rfl rfl (any_of HT_.out (by kernel_rfl)) (fun _ _ _ h => h) (Or.inl ⟨by rfl, ?_⟩) ?_ ?_
   rotate_left
   ·
    intro w'
    go_simp
    with_reducible rfl
   rotate_left
   ·
    simp only [Act.put, List.setIfInBounds_toArray, List.set_cons_zero, List.set_cons_succ, i64_w, i32_w]
    rfl
   refine pure_ (i := 7) (N := some 35) (v := ?_) (a' := ?_) #[true, true, true, true, true, true, true, true, false, true, false, false] rfl rfl (any_of HT_.out (by kernel_rfl)) (fun _ _ _ h => h) (Or.inl ⟨by rfl, ?_⟩) ?_ ?_
   rotate_left
   ·
    intro w'
    go_simp
    with_reducible rfl
   rotate_left
   ·
    simp only [Act.put, List.setIfInBounds_toArray, List.set_cons_zero, List.set_cons_succ, i64_w, i32_w]
    rfl
   exact norm_ (by simp only [putAll, Act.put, List.setIfInBounds_toArray, List.set_cons_zero, List.set_cons_succ] <;> rfl) (hJ1_3_4_9 (gb186) _ ⟨hHeld, BK147.out, BK148.out, BK167.out, BK168.out, BK186.out, GW186.out, GE186.out, NB147_186.out, NB186_147.out, NB148_186.out, NB186_148.out, NB167_186.out, NB186_167.out, NB168_186.out, NB186_168.out, HB.out⟩)
  intro hJ1_3_9
  refine join_ (σ := Nat × Nat) 7 #[true, true, true, false, false, false, false, false, true, true, false, false] (fun s_ => [(30, .agg #[.bool t169, .int .i64 t170, .int .i64 t171, .string t172]), (8, .pointer (some ⟨s_.1, 0, none⟩)), (9, .pointer (some ⟨s_.2, 0, none⟩))]) (fun s_ w' => (w'.cell? ⟨gb147, 0, none⟩ = some (.bool a0_0) ∧ w'.cell? ⟨gb147, 1, none⟩ = some (.int .i64 a0_1) ∧ w'.cell? ⟨gb147, 2, none⟩ = some (.int .i64 a0_2) ∧ w'.cell? ⟨gb147, 3, none⟩ = some (.string a0_3) ∧ w'.cell? ⟨gb148, 0, none⟩ = some (.bool a1_0) ∧ w'.cell? ⟨gb148, 1, none⟩ = some (.int .i64 a1_1) ∧ w'.cell? ⟨gb148, 2, none⟩ = some (.int .i64 a1_2) ∧ w'.cell? ⟨gb148, 3, none⟩ = some (.string a1_3)) ∧ (w'.heap[gb147]? = some (.cells #[.bool a0_0, .int .i64 a0_1, .int .i64 a0_2, .string a0_3] 23 (0, 0))) ∧ (w'.heap[gb148]? = some (.cells #[.bool a1_0, .int .i64 a1_1, .int .i64 a1_2, .string a1_3] 23 (0, 0))) ∧ (w'.heap[gb167]? = some (.cells #[.bool t159, .int .i64 t160, .int .i64 t161, .string t162] 26 (0, 0))) ∧ (w'.heap[gb168]? = some (.cells #[.bool t163, .int .i64 t164, .int .i64 t165, .string t166] 26 (0, 0))) ∧ (w'.heap[s_.1]? = some (.cells #[.bool false, .int .i64 0, .int .i64 0, .string (⟨#[]⟩ : ByteArray)] 26 (0, 0))) ∧ (w'.heap[s_.2]? = some (.cells #[.bool false, .int .i64 0, .int .i64 0, .string (⟨#[]⟩ : ByteArray)] 26 (0, 0))) ∧ (w.heap.size ≤ s_.1) ∧ (w.heap.size ≤ s_.1) ∧ (gb147 ≠ s_.1) ∧ (s_.1 ≠ gb147) ∧ (gb148 ≠ s_.1) ∧ (s_.1 ≠ gb148) ∧ (gb167 ≠ s_.1) ∧ (s_.1 ≠ gb167) ∧ (gb168 ≠ s_.1) ∧ (s_.1 ≠ gb168) ∧ (s_.2 ≠ s_.1) ∧ (s_.1 ≠ s_.2) ∧ (w.heap.size ≤ s_.2) ∧ (w.heap.size ≤ s_.2) ∧ (gb147 ≠ s_.2) ∧ (s_.2 ≠ gb147) ∧ (gb148 ≠ s_.2) ∧ (s_.2 ≠ gb148) ∧ (gb167 ≠ s_.2) ∧ (s_.2 ≠ gb167) ∧ (gb168 ≠ s_.2) ∧ (s_.2 ≠ gb168) ∧ (Below w.heap.size w w')) ?_ ?_
  ·
   skip
   rintro ⟨gb185, gb186⟩ w56 ⟨hS_, h0_, h1_, h2_, h3_, h4_, h5_, h6_, h7_, h8_, h9_, h10_, h11_, h12_, h13_, h14_, h15_, h16_, h17_, h18_, h19_, h20_, h21_, h22_, h23_, h24_, h25_, h26_, h27_, h28_⟩
   have BK185 := Aside0.mk h4_
   have BK186 := Aside0.mk h5_
   have GW185 := Aside0.mk h6_
   have GE185 := Aside0.mk h7_
   have NB147_185 := Aside0.mk h8_
   have NB185_147 := Aside0.mk h9_
   have NB148_185 := Aside0.mk h10_
   have NB185_148 := Aside0.mk h11_
   have NB167_185 := Aside0.mk h12_
   have NB185_167 := Aside0.mk h13_
   have NB168_185 := Aside0.mk h14_
   have NB185_168 := Aside0.mk h15_
   have NB186_185 := Aside0.mk h16_
   have NB185_186 := Aside0.mk h17_
   have GW186 := Aside0.mk h18_
   have GE186 := Aside0.mk h19_
   have NB147_186 := Aside0.mk h20_
   have NB186_147 := Aside0.mk h21_
   have NB148_186 := Aside0.mk h22_
   have NB186_148 := Aside0.mk h23_
   have NB167_186 := Aside0.mk h24_
   have NB186_167 := Aside0.mk h25_
   have NB168_186 := Aside0.mk h26_
   have NB186_168 := Aside0.mk h27_
   replace BK147 := Aside0.mk h0_
   replace BK148 := Aside0.mk h1_
   replace BK167 := Aside0.mk h2_
   replace BK168 := Aside0.mk h3_
   replace HB := Aside0.mk h28_
   clear h0_ h1_ h2_ h3_ h4_ h5_ h6_ h7_ h8_ h9_ h10_ h11_ h12_ h13_ h14_ h15_ h16_ h17_ h18_ h19_ h20_ h21_ h22_ h23_ h24_ h25_ h26_ h27_ h28_
   have hHeld : w56.cell? ⟨gb147, 0, none⟩ = some (.bool a0_0) ∧ w56.cell? ⟨gb147, 1, none⟩ = some (.int .i64 a0_1) ∧ w56.cell? ⟨gb147, 2, none⟩ = some (.int .i64 a0_2) ∧ w56.cell? ⟨gb147, 3, none⟩ = some (.string a0_3) ∧ w56.cell? ⟨gb148, 0, none⟩ = some (.bool a1_0) ∧ w56.cell? ⟨gb148, 1, none⟩ = some (.int .i64 a1_1) ∧ w56.cell? ⟨gb148, 2, none⟩ = some (.int .i64 a1_2) ∧ w56.cell? ⟨gb148, 3, none⟩ = some (.string a1_3) := hS_
   refine norm_ (a' := ?_) ?_ ?_
   rotate_left
   ·
    simp only [putAll, Act.put, List.setIfInBounds_toArray, List.set_cons_zero, List.set_cons_succ]
    rfl
   refine one_ (i := 3) (N := some 32) #[true, true, true, true, false, false, false, false, true, true, false, false] rfl rfl (one_of HT_.out (by kernel_rfl)) (by decide) (fun K hK => ?_)
   refine goes_ Try.func19 (by kernel_rfl) rfl #[.agg #[.bool a1_0, .int .i64 a1_1, .int .i64 a1_2, .string a1_3]] (by rfl) rfl rfl (by (try simp only [List.map_toArray, List.map_cons, List.map_nil]); first | done | rfl | (simp only [List.length_drop, List.length_take]; rfl)) ?_
   with_reducible refine (laws_toRec.calls a1_0 a1_1 a1_2 a1_3 t173 t174 t175 t176 _ A23.out).mono ?_
   rintro e w57 ⟨rfl, hb⟩
   refine ⟨_, rfl, ?_⟩
   replace BK147 := Aside0.mk (blk_below BK147.out hb)
   replace BK148 := Aside0.mk (blk_below BK148.out hb)
   replace BK167 := Aside0.mk (blk_below BK167.out hb)
   replace BK168 := Aside0.mk (blk_below BK168.out hb)
   replace BK185 := Aside0.mk (blk_below BK185.out hb)
   replace BK186 := Aside0.mk (blk_below BK186.out hb)
   replace HB := Aside0.mk (below_step HB.out hb)
   (try clear hb)
   (try clear hb2)
   (try clear hk)
   (try clear hi)
   refine hK.out _ _ ⟨b7_ BK147.out 0 rfl, b7_ BK147.out 1 rfl, b7_ BK147.out 2 rfl, b7_ BK147.out 3 rfl, b7_ BK148.out 0 rfl, b7_ BK148.out 1 rfl, b7_ BK148.out 2 rfl, b7_ BK148.out 3 rfl⟩ (fun hHeld => ?_)
   clear hK K
   refine norm_ (a' := ?_) ?_ ?_
   rotate_left
   ·
    show Act.put _ (some 32) _ = _
    simp only [Act.put, List.setIfInBounds_toArray, List.set_cons_zero, List.set_cons_succ, i64_w, i32_w]
    rfl
   exact norm_ (by simp only [putAll, Act.put, List.setIfInBounds_toArray, List.set_cons_zero, List.set_cons_succ] <;> rfl) (hJ1_3_8_9 (gb185, gb186) _ ⟨hHeld, BK147.out, BK148.out, BK167.out, BK168.out, BK185.out, BK186.out, GW185.out, GE185.out, NB147_185.out, NB185_147.out, NB148_185.out, NB185_148.out, NB167_185.out, NB185_167.out, NB168_185.out, NB185_168.out, NB186_185.out, NB185_186.out, GW186.out, GE186.out, NB147_186.out, NB186_147.out, NB148_186.out, NB186_148.out, NB167_186.out, NB186_167.out, NB168_186.out, NB186_168.out, HB.out⟩)
  intro hJ1_8_9
  refine join_ (σ := Unit) 8 #[true, true, true, true, false, false, false, false, false, false, false, false] (fun s_ => [(30, .agg #[.bool t169, .int .i64 t170, .int .i64 t171, .string t172]), (32, .agg #[.bool t173, .int .i64 t174, .int .i64 t175, .string t176])]) (fun s_ w' => (w'.cell? ⟨gb147, 0, none⟩ = some (.bool a0_0) ∧ w'.cell? ⟨gb147, 1, none⟩ = some (.int .i64 a0_1) ∧ w'.cell? ⟨gb147, 2, none⟩ = some (.int .i64 a0_2) ∧ w'.cell? ⟨gb147, 3, none⟩ = some (.string a0_3) ∧ w'.cell? ⟨gb148, 0, none⟩ = some (.bool a1_0) ∧ w'.cell? ⟨gb148, 1, none⟩ = some (.int .i64 a1_1) ∧ w'.cell? ⟨gb148, 2, none⟩ = some (.int .i64 a1_2) ∧ w'.cell? ⟨gb148, 3, none⟩ = some (.string a1_3)) ∧ (w'.heap[gb147]? = some (.cells #[.bool a0_0, .int .i64 a0_1, .int .i64 a0_2, .string a0_3] 23 (0, 0))) ∧ (w'.heap[gb148]? = some (.cells #[.bool a1_0, .int .i64 a1_1, .int .i64 a1_2, .string a1_3] 23 (0, 0))) ∧ (w'.heap[gb167]? = some (.cells #[.bool t159, .int .i64 t160, .int .i64 t161, .string t162] 26 (0, 0))) ∧ (w'.heap[gb168]? = some (.cells #[.bool t163, .int .i64 t164, .int .i64 t165, .string t166] 26 (0, 0))) ∧ (Below w.heap.size w w')) ?_ ?_
  ·
   skip
   rintro _ w55 ⟨hS_, h0_, h1_, h2_, h3_, h4_⟩
   replace BK147 := Aside0.mk h0_
   replace BK148 := Aside0.mk h1_
   replace BK167 := Aside0.mk h2_
   replace BK168 := Aside0.mk h3_
   replace HB := Aside0.mk h4_
   clear h0_ h1_ h2_ h3_ h4_
   have hHeld : w55.cell? ⟨gb147, 0, none⟩ = some (.bool a0_0) ∧ w55.cell? ⟨gb147, 1, none⟩ = some (.int .i64 a0_1) ∧ w55.cell? ⟨gb147, 2, none⟩ = some (.int .i64 a0_2) ∧ w55.cell? ⟨gb147, 3, none⟩ = some (.string a0_3) ∧ w55.cell? ⟨gb148, 0, none⟩ = some (.bool a1_0) ∧ w55.cell? ⟨gb148, 1, none⟩ = some (.int .i64 a1_1) ∧ w55.cell? ⟨gb148, 2, none⟩ = some (.int .i64 a1_2) ∧ w55.cell? ⟨gb148, 3, none⟩ = some (.string a1_3) := hS_
   refine norm_ (a' := ?_) ?_ ?_
   rotate_left
   ·
    simp only [putAll, Act.put, List.setIfInBounds_toArray, List.set_cons_zero, List.set_cons_succ]
    rfl
   refine three_ (i := 4) (j := 8) (k := 9) (Ni := some 33) (Nj := some 8) (Nk := some 9) #[true, true, true, true, true, false, false, false, false, false, false, false] #[true, true, true, true, false, false, false, false, true, false, false, false] #[true, true, true, true, false, false, false, false, false, true, false, false] rfl rfl rfl rfl rfl rfl (three_of HT_.out (by kernel_rfl)) (by decide) (by decide) (by decide) (fun K hK => ?_) (fun K hK => ?_) (fun K hK => ?_)
   ·
    skip
    refine goes_ Try.func34 (by kernel_rfl) rfl #[.agg #[.bool t169, .int .i64 t170, .int .i64 t171, .string t172], .agg #[.bool t173, .int .i64 t174, .int .i64 t175, .string t176]] (by rfl) rfl rfl (by (try simp only [List.map_toArray, List.map_cons, List.map_nil]); first | done | rfl | (simp only [List.length_drop, List.length_take]; rfl)) ?_
    with_reducible refine (impl_RecPair.calls k t169 t170 t171 t172 t173 t174 t175 t176 t177 t178 t179 t180 t181 t182 t183 t184 _ A24.out).mono ?_
    rintro e w56 ⟨rfl, hb⟩
    refine ⟨_, rfl, ?_⟩
    replace BK147 := Aside0.mk (blk_below BK147.out hb)
    replace BK148 := Aside0.mk (blk_below BK148.out hb)
    replace BK167 := Aside0.mk (blk_below BK167.out hb)
    replace BK168 := Aside0.mk (blk_below BK168.out hb)
    replace HB := Aside0.mk (below_step HB.out hb)
    (try clear hb)
    (try clear hb2)
    (try clear hk)
    (try clear hi)
    refine hK.out _ _ ⟨b7_ BK147.out 0 rfl, b7_ BK147.out 1 rfl, b7_ BK147.out 2 rfl, b7_ BK147.out 3 rfl, b7_ BK148.out 0 rfl, b7_ BK148.out 1 rfl, b7_ BK148.out 2 rfl, b7_ BK148.out 3 rfl⟩ (fun hHeld => ?_)
    clear hK K
    refine norm_ (a' := ?_) ?_ ?_
    rotate_left
    ·
     show Act.put _ (some 33) _ = _
     simp only [Act.put, List.setIfInBounds_toArray, List.set_cons_zero, List.set_cons_succ, i64_w, i32_w]
     rfl
    refine pure_ (i := 5) (N := some 28) (v := ?_) (a' := ?_) #[true, true, true, true, true, true, false, false, false, false, false, false] rfl rfl (any_of HT_.out (by kernel_rfl)) (fun _ _ _ h => h) (Or.inl ⟨by rfl, ?_⟩) ?_ ?_
    rotate_left
    ·
     intro w'
     go_simp
     with_reducible rfl
    rotate_left
    ·
     simp only [Act.put, List.setIfInBounds_toArray, List.set_cons_zero, List.set_cons_succ, i64_w, i32_w]
     rfl
    refine pure_ (i := 6) (N := some 34) (v := ?_) (a' := ?_) #[true, true, true, true, true, true, true, false, false, false, false, false] rfl rfl (any_of HT_.out (by kernel_rfl)) (fun _ _ _ h => h) (Or.inl ⟨by rfl, ?_⟩) ?_ ?_
    rotate_left
    ·
     intro w'
     go_simp
     with_reducible rfl
    rotate_left
    ·
     simp only [Act.put, List.setIfInBounds_toArray, List.set_cons_zero, List.set_cons_succ, i64_w, i32_w]
     rfl
    refine pure_ (i := 7) (N := some 35) (v := ?_) (a' := ?_) #[true, true, true, true, true, true, true, true, false, false, false, false] rfl rfl (any_of HT_.out (by kernel_rfl)) (fun _ _ _ h => h) (Or.inl ⟨by rfl, ?_⟩) ?_ ?_
    rotate_left
    ·
     intro w'
     go_simp
     with_reducible rfl
    rotate_left
    ·
     simp only [Act.put, List.setIfInBounds_toArray, List.set_cons_zero, List.set_cons_succ, i64_w, i32_w]
     rfl
    exact norm_ (by simp only [putAll, Act.put, List.setIfInBounds_toArray, List.set_cons_zero, List.set_cons_succ] <;> rfl) (hJ1_3_4 () _ ⟨hHeld, BK147.out, BK148.out, BK167.out, BK168.out, HB.out⟩)
   ·
    skip
    refine box_step ?hg (N := 8) ?hd (cs := #[.bool false, .int .i64 0, .int .i64 0, .string (⟨#[]⟩ : ByteArray)]) (t := 26) ?hr ?_; (case hd => rfl); (case hg => rfl); (case hr => first | (go_simp; done) | (go_simp; rfl))
    intro gb185 hg w56 hbox hb
    have BK185 := Aside0.mk (hbox)
    have GW185 := Aside0.mk ((by rw [hg]; exact (below_size HB.out) : w.heap.size ≤ gb185))
    have GE185 := Aside0.mk ((by rw [hg]; exact (below_size HB.out) : w.heap.size ≤ gb185))
    have NB147_185 := Aside0.mk ((by rw [hg]; exact Nat.ne_of_lt (blk_lt BK147.out) : gb147 ≠ gb185))
    have NB185_147 := Aside0.mk ((by rw [hg]; exact Nat.ne_of_gt (blk_lt BK147.out) : gb185 ≠ gb147))
    have NB148_185 := Aside0.mk ((by rw [hg]; exact Nat.ne_of_lt (blk_lt BK148.out) : gb148 ≠ gb185))
    have NB185_148 := Aside0.mk ((by rw [hg]; exact Nat.ne_of_gt (blk_lt BK148.out) : gb185 ≠ gb148))
    have NB167_185 := Aside0.mk ((by rw [hg]; exact Nat.ne_of_lt (blk_lt BK167.out) : gb167 ≠ gb185))
    have NB185_167 := Aside0.mk ((by rw [hg]; exact Nat.ne_of_gt (blk_lt BK167.out) : gb185 ≠ gb167))
    have NB168_185 := Aside0.mk ((by rw [hg]; exact Nat.ne_of_lt (blk_lt BK168.out) : gb168 ≠ gb185))
    have NB185_168 := Aside0.mk ((by rw [hg]; exact Nat.ne_of_gt (blk_lt BK168.out) : gb185 ≠ gb168))
    replace BK147 := Aside0.mk (blk_below BK147.out hb)
    replace BK148 := Aside0.mk (blk_below BK148.out hb)
    replace BK167 := Aside0.mk (blk_below BK167.out hb)
    replace BK168 := Aside0.mk (blk_below BK168.out hb)
    replace HB := Aside0.mk (below_step HB.out hb)
    clear hb hbox hg
    refine hK.out _ _ ⟨b7_ BK147.out 0 rfl, b7_ BK147.out 1 rfl, b7_ BK147.out 2 rfl, b7_ BK147.out 3 rfl, b7_ BK148.out 0 rfl, b7_ BK148.out 1 rfl, b7_ BK148.out 2 rfl, b7_ BK148.out 3 rfl⟩ (fun hHeld => ?_)
    clear hK K
    refine norm_ (a' := ?_) ?_ ?_
    rotate_left
    ·
     show Act.put _ (some 8) _ = _
     simp only [Act.put, List.setIfInBounds_toArray, List.set_cons_zero, List.set_cons_succ, i64_w, i32_w]
     rfl
    exact norm_ (by simp only [putAll, Act.put, List.setIfInBounds_toArray, List.set_cons_zero, List.set_cons_succ] <;> rfl) (hJ1_3_8 (gb185) _ ⟨hHeld, BK147.out, BK148.out, BK167.out, BK168.out, BK185.out, GW185.out, GE185.out, NB147_185.out, NB185_147.out, NB148_185.out, NB185_148.out, NB167_185.out, NB185_167.out, NB168_185.out, NB185_168.out, HB.out⟩)
   skip
   refine box_step ?hg (N := 9) ?hd (cs := #[.bool false, .int .i64 0, .int .i64 0, .string (⟨#[]⟩ : ByteArray)]) (t := 26) ?hr ?_; (case hd => rfl); (case hg => rfl); (case hr => first | (go_simp; done) | (go_simp; rfl))
   intro gb186 hg w56 hbox hb
   have BK186 := Aside0.mk (hbox)
   have GW186 := Aside0.mk ((by rw [hg]; exact (below_size HB.out) : w.heap.size ≤ gb186))
   have GE186 := Aside0.mk ((by rw [hg]; exact (below_size HB.out) : w.heap.size ≤ gb186))
   have NB147_186 := Aside0.mk ((by rw [hg]; exact Nat.ne_of_lt (blk_lt BK147.out) : gb147 ≠ gb186))
   have NB186_147 := Aside0.mk ((by rw [hg]; exact Nat.ne_of_gt (blk_lt BK147.out) : gb186 ≠ gb147))
   have NB148_186 := Aside0.mk ((by rw [hg]; exact Nat.ne_of_lt (blk_lt BK148.out) : gb148 ≠ gb186))
   have NB186_148 := Aside0.mk ((by rw [hg]; exact Nat.ne_of_gt (blk_lt BK148.out) : gb186 ≠ gb148))
   have NB167_186 := Aside0.mk ((by rw [hg]; exact Nat.ne_of_lt (blk_lt BK167.out) : gb167 ≠ gb186))
   have NB186_167 := Aside0.mk ((by rw [hg]; exact Nat.ne_of_gt (blk_lt BK167.out) : gb186 ≠ gb167))
   have NB168_186 := Aside0.mk ((by rw [hg]; exact Nat.ne_of_lt (blk_lt BK168.out) : gb168 ≠ gb186))
   have NB186_168 := Aside0.mk ((by rw [hg]; exact Nat.ne_of_gt (blk_lt BK168.out) : gb186 ≠ gb168))
   replace BK147 := Aside0.mk (blk_below BK147.out hb)
   replace BK148 := Aside0.mk (blk_below BK148.out hb)
   replace BK167 := Aside0.mk (blk_below BK167.out hb)
   replace BK168 := Aside0.mk (blk_below BK168.out hb)
   replace HB := Aside0.mk (below_step HB.out hb)
   clear hb hbox hg
   refine hK.out _ _ ⟨b7_ BK147.out 0 rfl, b7_ BK147.out 1 rfl, b7_ BK147.out 2 rfl, b7_ BK147.out 3 rfl, b7_ BK148.out 0 rfl, b7_ BK148.out 1 rfl, b7_ BK148.out 2 rfl, b7_ BK148.out 3 rfl⟩ (fun hHeld => ?_)
   clear hK K
   refine norm_ (a' := ?_) ?_ ?_
   rotate_left
   ·
    show Act.put _ (some 9) _ = _
    simp only [Act.put, List.setIfInBounds_toArray, List.set_cons_zero, List.set_cons_succ, i64_w, i32_w]
    rfl
   exact norm_ (by simp only [putAll, Act.put, List.setIfInBounds_toArray, List.set_cons_zero, List.set_cons_succ] <;> rfl) (hJ1_3_9 (gb186) _ ⟨hHeld, BK147.out, BK148.out, BK167.out, BK168.out, BK186.out, GW186.out, GE186.out, NB147_186.out, NB186_147.out, NB148_186.out, NB186_148.out, NB167_186.out, NB186_167.out, NB168_186.out, NB186_168.out, HB.out⟩)
  intro hJ1_3
  refine join_ (σ := Nat) 8 #[true, true, true, false, false, false, false, false, true, false, false, false] (fun s_ => [(30, .agg #[.bool t169, .int .i64 t170, .int .i64 t171, .string t172]), (8, .pointer (some ⟨s_, 0, none⟩))]) (fun s_ w' => (w'.cell? ⟨gb147, 0, none⟩ = some (.bool a0_0) ∧ w'.cell? ⟨gb147, 1, none⟩ = some (.int .i64 a0_1) ∧ w'.cell? ⟨gb147, 2, none⟩ = some (.int .i64 a0_2) ∧ w'.cell? ⟨gb147, 3, none⟩ = some (.string a0_3) ∧ w'.cell? ⟨gb148, 0, none⟩ = some (.bool a1_0) ∧ w'.cell? ⟨gb148, 1, none⟩ = some (.int .i64 a1_1) ∧ w'.cell? ⟨gb148, 2, none⟩ = some (.int .i64 a1_2) ∧ w'.cell? ⟨gb148, 3, none⟩ = some (.string a1_3)) ∧ (w'.heap[gb147]? = some (.cells #[.bool a0_0, .int .i64 a0_1, .int .i64 a0_2, .string a0_3] 23 (0, 0))) ∧ (w'.heap[gb148]? = some (.cells #[.bool a1_0, .int .i64 a1_1, .int .i64 a1_2, .string a1_3] 23 (0, 0))) ∧ (w'.heap[gb167]? = some (.cells #[.bool t159, .int .i64 t160, .int .i64 t161, .string t162] 26 (0, 0))) ∧ (w'.heap[gb168]? = some (.cells #[.bool t163, .int .i64 t164, .int .i64 t165, .string t166] 26 (0, 0))) ∧ (w'.heap[s_]? = some (.cells #[.bool false, .int .i64 0, .int .i64 0, .string (⟨#[]⟩ : ByteArray)] 26 (0, 0))) ∧ (w.heap.size ≤ s_) ∧ (w.heap.size ≤ s_) ∧ (gb147 ≠ s_) ∧ (s_ ≠ gb147) ∧ (gb148 ≠ s_) ∧ (s_ ≠ gb148) ∧ (gb167 ≠ s_) ∧ (s_ ≠ gb167) ∧ (gb168 ≠ s_) ∧ (s_ ≠ gb168) ∧ (Below w.heap.size w w')) ?_ ?_
  ·
   skip
   rintro gb185 w55 ⟨hS_, h0_, h1_, h2_, h3_, h4_, h5_, h6_, h7_, h8_, h9_, h10_, h11_, h12_, h13_, h14_, h15_⟩
   have BK185 := Aside0.mk h4_
   have GW185 := Aside0.mk h5_
   have GE185 := Aside0.mk h6_
   have NB147_185 := Aside0.mk h7_
   have NB185_147 := Aside0.mk h8_
   have NB148_185 := Aside0.mk h9_
   have NB185_148 := Aside0.mk h10_
   have NB167_185 := Aside0.mk h11_
   have NB185_167 := Aside0.mk h12_
   have NB168_185 := Aside0.mk h13_
   have NB185_168 := Aside0.mk h14_
   replace BK147 := Aside0.mk h0_
   replace BK148 := Aside0.mk h1_
   replace BK167 := Aside0.mk h2_
   replace BK168 := Aside0.mk h3_
   replace HB := Aside0.mk h15_
   clear h0_ h1_ h2_ h3_ h4_ h5_ h6_ h7_ h8_ h9_ h10_ h11_ h12_ h13_ h14_ h15_
   have hHeld : w55.cell? ⟨gb147, 0, none⟩ = some (.bool a0_0) ∧ w55.cell? ⟨gb147, 1, none⟩ = some (.int .i64 a0_1) ∧ w55.cell? ⟨gb147, 2, none⟩ = some (.int .i64 a0_2) ∧ w55.cell? ⟨gb147, 3, none⟩ = some (.string a0_3) ∧ w55.cell? ⟨gb148, 0, none⟩ = some (.bool a1_0) ∧ w55.cell? ⟨gb148, 1, none⟩ = some (.int .i64 a1_1) ∧ w55.cell? ⟨gb148, 2, none⟩ = some (.int .i64 a1_2) ∧ w55.cell? ⟨gb148, 3, none⟩ = some (.string a1_3) := hS_
   refine norm_ (a' := ?_) ?_ ?_
   rotate_left
   ·
    simp only [putAll, Act.put, List.setIfInBounds_toArray, List.set_cons_zero, List.set_cons_succ]
    rfl
   refine two_ (i := 3) (j := 9) (Ni := some 32) (Nj := some 9) #[true, true, true, true, false, false, false, false, true, false, false, false] #[true, true, true, false, false, false, false, false, true, true, false, false] rfl rfl rfl rfl (two_of HT_.out (by kernel_rfl)) (by decide) (by decide) (fun K hK => ?_) (fun K hK => ?_)
   ·
    skip
    refine goes_ Try.func19 (by kernel_rfl) rfl #[.agg #[.bool a1_0, .int .i64 a1_1, .int .i64 a1_2, .string a1_3]] (by rfl) rfl rfl (by (try simp only [List.map_toArray, List.map_cons, List.map_nil]); first | done | rfl | (simp only [List.length_drop, List.length_take]; rfl)) ?_
    with_reducible refine (laws_toRec.calls a1_0 a1_1 a1_2 a1_3 t173 t174 t175 t176 _ A23.out).mono ?_
    rintro e w56 ⟨rfl, hb⟩
    refine ⟨_, rfl, ?_⟩
    replace BK147 := Aside0.mk (blk_below BK147.out hb)
    replace BK148 := Aside0.mk (blk_below BK148.out hb)
    replace BK167 := Aside0.mk (blk_below BK167.out hb)
    replace BK168 := Aside0.mk (blk_below BK168.out hb)
    replace BK185 := Aside0.mk (blk_below BK185.out hb)
    replace HB := Aside0.mk (below_step HB.out hb)
    (try clear hb)
    (try clear hb2)
    (try clear hk)
    (try clear hi)
    refine hK.out _ _ ⟨b7_ BK147.out 0 rfl, b7_ BK147.out 1 rfl, b7_ BK147.out 2 rfl, b7_ BK147.out 3 rfl, b7_ BK148.out 0 rfl, b7_ BK148.out 1 rfl, b7_ BK148.out 2 rfl, b7_ BK148.out 3 rfl⟩ (fun hHeld => ?_)
    clear hK K
    refine norm_ (a' := ?_) ?_ ?_
    rotate_left
    ·
     show Act.put _ (some 32) _ = _
     simp only [Act.put, List.setIfInBounds_toArray, List.set_cons_zero, List.set_cons_succ, i64_w, i32_w]
     rfl
    exact norm_ (by simp only [putAll, Act.put, List.setIfInBounds_toArray, List.set_cons_zero, List.set_cons_succ] <;> rfl) (hJ1_3_8 (gb185) _ ⟨hHeld, BK147.out, BK148.out, BK167.out, BK168.out, BK185.out, GW185.out, GE185.out, NB147_185.out, NB185_147.out, NB148_185.out, NB185_148.out, NB167_185.out, NB185_167.out, NB168_185.out, NB185_168.out, HB.out⟩)
   skip
   refine box_step ?hg (N := 9) ?hd (cs := #[.bool false, .int .i64 0, .int .i64 0, .string (⟨#[]⟩ : ByteArray)]) (t := 26) ?hr ?_; (case hd => rfl); (case hg => rfl); (case hr => first | (go_simp; done) | (go_simp; rfl))
   intro gb186 hg w56 hbox hb
   have BK186 := Aside0.mk (hbox)
   have GW186 := Aside0.mk ((by rw [hg]; exact (below_size HB.out) : w.heap.size ≤ gb186))
   have GE186 := Aside0.mk ((by rw [hg]; exact (below_size HB.out) : w.heap.size ≤ gb186))
   have NB147_186 := Aside0.mk ((by rw [hg]; exact Nat.ne_of_lt (blk_lt BK147.out) : gb147 ≠ gb186))
   have NB186_147 := Aside0.mk ((by rw [hg]; exact Nat.ne_of_gt (blk_lt BK147.out) : gb186 ≠ gb147))
   have NB148_186 := Aside0.mk ((by rw [hg]; exact Nat.ne_of_lt (blk_lt BK148.out) : gb148 ≠ gb186))
   have NB186_148 := Aside0.mk ((by rw [hg]; exact Nat.ne_of_gt (blk_lt BK148.out) : gb186 ≠ gb148))
   have NB167_186 := Aside0.mk ((by rw [hg]; exact Nat.ne_of_lt (blk_lt BK167.out) : gb167 ≠ gb186))
   have NB186_167 := Aside0.mk ((by rw [hg]; exact Nat.ne_of_gt (blk_lt BK167.out) : gb186 ≠ gb167))
   have NB168_186 := Aside0.mk ((by rw [hg]; exact Nat.ne_of_lt (blk_lt BK168.out) : gb168 ≠ gb186))
   have NB186_168 := Aside0.mk ((by rw [hg]; exact Nat.ne_of_gt (blk_lt BK168.out) : gb186 ≠ gb168))
   have NB185_186 := Aside0.mk ((by rw [hg]; exact Nat.ne_of_lt (blk_lt BK185.out) : gb185 ≠ gb186))
   have NB186_185 := Aside0.mk ((by rw [hg]; exact Nat.ne_of_gt (blk_lt BK185.out) : gb186 ≠ gb185))
   replace BK147 := Aside0.mk (blk_below BK147.out hb)
   replace BK148 := Aside0.mk (blk_below BK148.out hb)
   replace BK167 := Aside0.mk (blk_below BK167.out hb)
   replace BK168 := Aside0.mk (blk_below BK168.out hb)
   replace BK185 := Aside0.mk (blk_below BK185.out hb)
   replace HB := Aside0.mk (below_step HB.out hb)
   clear hb hbox hg
   refine hK.out _ _ ⟨b7_ BK147.out 0 rfl, b7_ BK147.out 1 rfl, b7_ BK147.out 2 rfl, b7_ BK147.out 3 rfl, b7_ BK148.out 0 rfl, b7_ BK148.out 1 rfl, b7_ BK148.out 2 rfl, b7_ BK148.out 3 rfl⟩ (fun hHeld => ?_)
   clear hK K
   refine norm_ (a' := ?_) ?_ ?_
   rotate_left
   ·
    show Act.put _ (some 9) _ = _
    simp only [Act.put, List.setIfInBounds_toArray, List.set_cons_zero, List.set_cons_succ, i64_w, i32_w]
    rfl
   exact norm_ (by simp only [putAll, Act.put, List.setIfInBounds_toArray, List.set_cons_zero, List.set_cons_succ] <;> rfl) (hJ1_8_9 (gb185, gb186) _ ⟨hHeld, BK147.out, BK148.out, BK167.out, BK168.out, BK185.out, BK186.out, GW185.out, GE185.out, NB147_185.out, NB185_147.out, NB148_185.out, NB185_148.out, NB167_185.out, NB185_167.out, NB168_185.out, NB185_168.out, NB186_185.out, NB185_186.out, GW186.out, GE186.out, NB147_186.out, NB186_147.out, NB148_186.out, NB186_148.out, NB167_186.out, NB186_167.out, NB168_186.out, NB186_168.out, HB.out⟩)
  intro hJ1_8
  refine join_ (σ := Nat) 8 #[true, true, true, false, false, false, false, false, false, true, false, false] (fun s_ => [(30, .agg #[.bool t169, .int .i64 t170, .int .i64 t171, .string t172]), (9, .pointer (some ⟨s_, 0, none⟩))]) (fun s_ w' => (w'.cell? ⟨gb147, 0, none⟩ = some (.bool a0_0) ∧ w'.cell? ⟨gb147, 1, none⟩ = some (.int .i64 a0_1) ∧ w'.cell? ⟨gb147, 2, none⟩ = some (.int .i64 a0_2) ∧ w'.cell? ⟨gb147, 3, none⟩ = some (.string a0_3) ∧ w'.cell? ⟨gb148, 0, none⟩ = some (.bool a1_0) ∧ w'.cell? ⟨gb148, 1, none⟩ = some (.int .i64 a1_1) ∧ w'.cell? ⟨gb148, 2, none⟩ = some (.int .i64 a1_2) ∧ w'.cell? ⟨gb148, 3, none⟩ = some (.string a1_3)) ∧ (w'.heap[gb147]? = some (.cells #[.bool a0_0, .int .i64 a0_1, .int .i64 a0_2, .string a0_3] 23 (0, 0))) ∧ (w'.heap[gb148]? = some (.cells #[.bool a1_0, .int .i64 a1_1, .int .i64 a1_2, .string a1_3] 23 (0, 0))) ∧ (w'.heap[gb167]? = some (.cells #[.bool t159, .int .i64 t160, .int .i64 t161, .string t162] 26 (0, 0))) ∧ (w'.heap[gb168]? = some (.cells #[.bool t163, .int .i64 t164, .int .i64 t165, .string t166] 26 (0, 0))) ∧ (w'.heap[s_]? = some (.cells #[.bool false, .int .i64 0, .int .i64 0, .string (⟨#[]⟩ : ByteArray)] 26 (0, 0))) ∧ (w.heap.size ≤ s_) ∧ (w.heap.size ≤ s_) ∧ (gb147 ≠ s_) ∧ (s_ ≠ gb147) ∧ (gb148 ≠ s_) ∧ (s_ ≠ gb148) ∧ (gb167 ≠ s_) ∧ (s_ ≠ gb167) ∧ (gb168 ≠ s_) ∧ (s_ ≠ gb168) ∧ (Below w.heap.size w w')) ?_ ?_
  ·
   skip
   rintro gb186 w55 ⟨hS_, h0_, h1_, h2_, h3_, h4_, h5_, h6_, h7_, h8_, h9_, h10_, h11_, h12_, h13_, h14_, h15_⟩
   have BK186 := Aside0.mk h4_
   have GW186 := Aside0.mk h5_
   have GE186 := Aside0.mk h6_
   have NB147_186 := Aside0.mk h7_
   have NB186_147 := Aside0.mk h8_
   have NB148_186 := Aside0.mk h9_
   have NB186_148 := Aside0.mk h10_
   have NB167_186 := Aside0.mk h11_
   have NB186_167 := Aside0.mk h12_
   have NB168_186 := Aside0.mk h13_
   have NB186_168 := Aside0.mk h14_
   replace BK147 := Aside0.mk h0_
   replace BK148 := Aside0.mk h1_
   replace BK167 := Aside0.mk h2_
   replace BK168 := Aside0.mk h3_
   replace HB := Aside0.mk h15_
   clear h0_ h1_ h2_ h3_ h4_ h5_ h6_ h7_ h8_ h9_ h10_ h11_ h12_ h13_ h14_ h15_
   have hHeld : w55.cell? ⟨gb147, 0, none⟩ = some (.bool a0_0) ∧ w55.cell? ⟨gb147, 1, none⟩ = some (.int .i64 a0_1) ∧ w55.cell? ⟨gb147, 2, none⟩ = some (.int .i64 a0_2) ∧ w55.cell? ⟨gb147, 3, none⟩ = some (.string a0_3) ∧ w55.cell? ⟨gb148, 0, none⟩ = some (.bool a1_0) ∧ w55.cell? ⟨gb148, 1, none⟩ = some (.int .i64 a1_1) ∧ w55.cell? ⟨gb148, 2, none⟩ = some (.int .i64 a1_2) ∧ w55.cell? ⟨gb148, 3, none⟩ = some (.string a1_3) := hS_
   refine norm_ (a' := ?_) ?_ ?_
   rotate_left
   ·
    simp only [putAll, Act.put, List.setIfInBounds_toArray, List.set_cons_zero, List.set_cons_succ]
    rfl
   refine two_ (i := 3) (j := 8) (Ni := some 32) (Nj := some 8) #[true, true, true, true, false, false, false, false, false, true, false, false] #[true, true, true, false, false, false, false, false, true, true, false, false] rfl rfl rfl rfl (two_of HT_.out (by kernel_rfl)) (by decide) (by decide) (fun K hK => ?_) (fun K hK => ?_)
   ·
    skip
    refine goes_ Try.func19 (by kernel_rfl) rfl #[.agg #[.bool a1_0, .int .i64 a1_1, .int .i64 a1_2, .string a1_3]] (by rfl) rfl rfl (by (try simp only [List.map_toArray, List.map_cons, List.map_nil]); first | done | rfl | (simp only [List.length_drop, List.length_take]; rfl)) ?_
    with_reducible refine (laws_toRec.calls a1_0 a1_1 a1_2 a1_3 t173 t174 t175 t176 _ A23.out).mono ?_
    rintro e w56 ⟨rfl, hb⟩
    refine ⟨_, rfl, ?_⟩
    replace BK147 := Aside0.mk (blk_below BK147.out hb)
    replace BK148 := Aside0.mk (blk_below BK148.out hb)
    replace BK167 := Aside0.mk (blk_below BK167.out hb)
    replace BK168 := Aside0.mk (blk_below BK168.out hb)
    replace BK186 := Aside0.mk (blk_below BK186.out hb)
    replace HB := Aside0.mk (below_step HB.out hb)
    (try clear hb)
    (try clear hb2)
    (try clear hk)
    (try clear hi)
    refine hK.out _ _ ⟨b7_ BK147.out 0 rfl, b7_ BK147.out 1 rfl, b7_ BK147.out 2 rfl, b7_ BK147.out 3 rfl, b7_ BK148.out 0 rfl, b7_ BK148.out 1 rfl, b7_ BK148.out 2 rfl, b7_ BK148.out 3 rfl⟩ (fun hHeld => ?_)
    clear hK K
    refine norm_ (a' := ?_) ?_ ?_
    rotate_left
    ·
     show Act.put _ (some 32) _ = _
     simp only [Act.put, List.setIfInBounds_toArray, List.set_cons_zero, List.set_cons_succ, i64_w, i32_w]
     rfl
    exact norm_ (by simp only [putAll, Act.put, List.setIfInBounds_toArray, List.set_cons_zero, List.set_cons_succ] <;> rfl) (hJ1_3_9 (gb186) _ ⟨hHeld, BK147.out, BK148.out, BK167.out, BK168.out, BK186.out, GW186.out, GE186.out, NB147_186.out, NB186_147.out, NB148_186.out, NB186_148.out, NB167_186.out, NB186_167.out, NB168_186.out, NB186_168.out, HB.out⟩)
   skip
   refine box_step ?hg (N := 8) ?hd (cs := #[.bool false, .int .i64 0, .int .i64 0, .string (⟨#[]⟩ : ByteArray)]) (t := 26) ?hr ?_; (case hd => rfl); (case hg => rfl); (case hr => first | (go_simp; done) | (go_simp; rfl))
   intro gb185 hg w56 hbox hb
   have BK185 := Aside0.mk (hbox)
   have GW185 := Aside0.mk ((by rw [hg]; exact (below_size HB.out) : w.heap.size ≤ gb185))
   have GE185 := Aside0.mk ((by rw [hg]; exact (below_size HB.out) : w.heap.size ≤ gb185))
   have NB147_185 := Aside0.mk ((by rw [hg]; exact Nat.ne_of_lt (blk_lt BK147.out) : gb147 ≠ gb185))
   have NB185_147 := Aside0.mk ((by rw [hg]; exact Nat.ne_of_gt (blk_lt BK147.out) : gb185 ≠ gb147))
   have NB148_185 := Aside0.mk ((by rw [hg]; exact Nat.ne_of_lt (blk_lt BK148.out) : gb148 ≠ gb185))
   have NB185_148 := Aside0.mk ((by rw [hg]; exact Nat.ne_of_gt (blk_lt BK148.out) : gb185 ≠ gb148))
   have NB167_185 := Aside0.mk ((by rw [hg]; exact Nat.ne_of_lt (blk_lt BK167.out) : gb167 ≠ gb185))
   have NB185_167 := Aside0.mk ((by rw [hg]; exact Nat.ne_of_gt (blk_lt BK167.out) : gb185 ≠ gb167))
   have NB168_185 := Aside0.mk ((by rw [hg]; exact Nat.ne_of_lt (blk_lt BK168.out) : gb168 ≠ gb185))
   have NB185_168 := Aside0.mk ((by rw [hg]; exact Nat.ne_of_gt (blk_lt BK168.out) : gb185 ≠ gb168))
   have NB186_185 := Aside0.mk ((by rw [hg]; exact Nat.ne_of_lt (blk_lt BK186.out) : gb186 ≠ gb185))
   have NB185_186 := Aside0.mk ((by rw [hg]; exact Nat.ne_of_gt (blk_lt BK186.out) : gb185 ≠ gb186))
   replace BK147 := Aside0.mk (blk_below BK147.out hb)
   replace BK148 := Aside0.mk (blk_below BK148.out hb)
   replace BK167 := Aside0.mk (blk_below BK167.out hb)
   replace BK168 := Aside0.mk (blk_below BK168.out hb)
   replace BK186 := Aside0.mk (blk_below BK186.out hb)
   replace HB := Aside0.mk (below_step HB.out hb)
   clear hb hbox hg
   refine hK.out _ _ ⟨b7_ BK147.out 0 rfl, b7_ BK147.out 1 rfl, b7_ BK147.out 2 rfl, b7_ BK147.out 3 rfl, b7_ BK148.out 0 rfl, b7_ BK148.out 1 rfl, b7_ BK148.out 2 rfl, b7_ BK148.out 3 rfl⟩ (fun hHeld => ?_)
   clear hK K
   refine norm_ (a' := ?_) ?_ ?_
   rotate_left
   ·
    show Act.put _ (some 8) _ = _
    simp only [Act.put, List.setIfInBounds_toArray, List.set_cons_zero, List.set_cons_succ, i64_w, i32_w]
    rfl
   exact norm_ (by simp only [putAll, Act.put, List.setIfInBounds_toArray, List.set_cons_zero, List.set_cons_succ] <;> rfl) (hJ1_8_9 (gb185, gb186) _ ⟨hHeld, BK147.out, BK148.out, BK167.out, BK168.out, BK185.out, BK186.out, GW185.out, GE185.out, NB147_185.out, NB185_147.out, NB148_185.out, NB185_148.out, NB167_185.out, NB185_167.out, NB168_185.out, NB185_168.out, NB186_185.out, NB185_186.out, GW186.out, GE186.out, NB147_186.out, NB186_147.out, NB148_186.out, NB186_148.out, NB167_186.out, NB186_167.out, NB168_186.out, NB186_168.out, HB.out⟩)
  intro hJ1_9
  refine join_ (σ := Nat × Nat) 8 #[true, false, true, false, false, false, false, false, true, true, false, false] (fun s_ => [(8, .pointer (some ⟨s_.1, 0, none⟩)), (9, .pointer (some ⟨s_.2, 0, none⟩))]) (fun s_ w' => (w'.cell? ⟨gb147, 0, none⟩ = some (.bool a0_0) ∧ w'.cell? ⟨gb147, 1, none⟩ = some (.int .i64 a0_1) ∧ w'.cell? ⟨gb147, 2, none⟩ = some (.int .i64 a0_2) ∧ w'.cell? ⟨gb147, 3, none⟩ = some (.string a0_3) ∧ w'.cell? ⟨gb148, 0, none⟩ = some (.bool a1_0) ∧ w'.cell? ⟨gb148, 1, none⟩ = some (.int .i64 a1_1) ∧ w'.cell? ⟨gb148, 2, none⟩ = some (.int .i64 a1_2) ∧ w'.cell? ⟨gb148, 3, none⟩ = some (.string a1_3)) ∧ (w'.heap[gb147]? = some (.cells #[.bool a0_0, .int .i64 a0_1, .int .i64 a0_2, .string a0_3] 23 (0, 0))) ∧ (w'.heap[gb148]? = some (.cells #[.bool a1_0, .int .i64 a1_1, .int .i64 a1_2, .string a1_3] 23 (0, 0))) ∧ (w'.heap[gb167]? = some (.cells #[.bool t159, .int .i64 t160, .int .i64 t161, .string t162] 26 (0, 0))) ∧ (w'.heap[gb168]? = some (.cells #[.bool t163, .int .i64 t164, .int .i64 t165, .string t166] 26 (0, 0))) ∧ (w'.heap[s_.1]? = some (.cells #[.bool false, .int .i64 0, .int .i64 0, .string (⟨#[]⟩ : ByteArray)] 26 (0, 0))) ∧ (w'.heap[s_.2]? = some (.cells #[.bool false, .int .i64 0, .int .i64 0, .string (⟨#[]⟩ : ByteArray)] 26 (0, 0))) ∧ (w.heap.size ≤ s_.1) ∧ (w.heap.size ≤ s_.1) ∧ (gb147 ≠ s_.1) ∧ (s_.1 ≠ gb147) ∧ (gb148 ≠ s_.1) ∧ (s_.1 ≠ gb148) ∧ (gb167 ≠ s_.1) ∧ (s_.1 ≠ gb167) ∧ (gb168 ≠ s_.1) ∧ (s_.1 ≠ gb168) ∧ (s_.2 ≠ s_.1) ∧ (s_.1 ≠ s_.2) ∧ (w.heap.size ≤ s_.2) ∧ (w.heap.size ≤ s_.2) ∧ (gb147 ≠ s_.2) ∧ (s_.2 ≠ gb147) ∧ (gb148 ≠ s_.2) ∧ (s_.2 ≠ gb148) ∧ (gb167 ≠ s_.2) ∧ (s_.2 ≠ gb167) ∧ (gb168 ≠ s_.2) ∧ (s_.2 ≠ gb168) ∧ (Below w.heap.size w w')) ?_ ?_
  ·
   skip
   rintro ⟨gb185, gb186⟩ w55 ⟨hS_, h0_, h1_, h2_, h3_, h4_, h5_, h6_, h7_, h8_, h9_, h10_, h11_, h12_, h13_, h14_, h15_, h16_, h17_, h18_, h19_, h20_, h21_, h22_, h23_, h24_, h25_, h26_, h27_, h28_⟩
   have BK185 := Aside0.mk h4_
   have BK186 := Aside0.mk h5_
   have GW185 := Aside0.mk h6_
   have GE185 := Aside0.mk h7_
   have NB147_185 := Aside0.mk h8_
   have NB185_147 := Aside0.mk h9_
   have NB148_185 := Aside0.mk h10_
   have NB185_148 := Aside0.mk h11_
   have NB167_185 := Aside0.mk h12_
   have NB185_167 := Aside0.mk h13_
   have NB168_185 := Aside0.mk h14_
   have NB185_168 := Aside0.mk h15_
   have NB186_185 := Aside0.mk h16_
   have NB185_186 := Aside0.mk h17_
   have GW186 := Aside0.mk h18_
   have GE186 := Aside0.mk h19_
   have NB147_186 := Aside0.mk h20_
   have NB186_147 := Aside0.mk h21_
   have NB148_186 := Aside0.mk h22_
   have NB186_148 := Aside0.mk h23_
   have NB167_186 := Aside0.mk h24_
   have NB186_167 := Aside0.mk h25_
   have NB168_186 := Aside0.mk h26_
   have NB186_168 := Aside0.mk h27_
   replace BK147 := Aside0.mk h0_
   replace BK148 := Aside0.mk h1_
   replace BK167 := Aside0.mk h2_
   replace BK168 := Aside0.mk h3_
   replace HB := Aside0.mk h28_
   clear h0_ h1_ h2_ h3_ h4_ h5_ h6_ h7_ h8_ h9_ h10_ h11_ h12_ h13_ h14_ h15_ h16_ h17_ h18_ h19_ h20_ h21_ h22_ h23_ h24_ h25_ h26_ h27_ h28_
   have hHeld : w55.cell? ⟨gb147, 0, none⟩ = some (.bool a0_0) ∧ w55.cell? ⟨gb147, 1, none⟩ = some (.int .i64 a0_1) ∧ w55.cell? ⟨gb147, 2, none⟩ = some (.int .i64 a0_2) ∧ w55.cell? ⟨gb147, 3, none⟩ = some (.string a0_3) ∧ w55.cell? ⟨gb148, 0, none⟩ = some (.bool a1_0) ∧ w55.cell? ⟨gb148, 1, none⟩ = some (.int .i64 a1_1) ∧ w55.cell? ⟨gb148, 2, none⟩ = some (.int .i64 a1_2) ∧ w55.cell? ⟨gb148, 3, none⟩ = some (.string a1_3) := hS_
   refine norm_ (a' := ?_) ?_ ?_
   rotate_left
   ·
    simp only [putAll, Act.put, List.setIfInBounds_toArray, List.set_cons_zero, List.set_cons_succ]
    rfl
   refine one_ (i := 1) (N := some 30) #[true, true, true, false, false, false, false, false, true, true, false, false] rfl rfl (one_of HT_.out (by kernel_rfl)) (by decide) (fun K hK => ?_)
   refine goes_ Try.func19 (by kernel_rfl) rfl #[.agg #[.bool a0_0, .int .i64 a0_1, .int .i64 a0_2, .string a0_3]] (by rfl) rfl rfl (by (try simp only [List.map_toArray, List.map_cons, List.map_nil]); first | done | rfl | (simp only [List.length_drop, List.length_take]; rfl)) ?_
   with_reducible refine (laws_toRec.calls a0_0 a0_1 a0_2 a0_3 t169 t170 t171 t172 _ A22.out).mono ?_
   rintro e w56 ⟨rfl, hb⟩
   refine ⟨_, rfl, ?_⟩
   replace BK147 := Aside0.mk (blk_below BK147.out hb)
   replace BK148 := Aside0.mk (blk_below BK148.out hb)
   replace BK167 := Aside0.mk (blk_below BK167.out hb)
   replace BK168 := Aside0.mk (blk_below BK168.out hb)
   replace BK185 := Aside0.mk (blk_below BK185.out hb)
   replace BK186 := Aside0.mk (blk_below BK186.out hb)
   replace HB := Aside0.mk (below_step HB.out hb)
   (try clear hb)
   (try clear hb2)
   (try clear hk)
   (try clear hi)
   refine hK.out _ _ ⟨b7_ BK147.out 0 rfl, b7_ BK147.out 1 rfl, b7_ BK147.out 2 rfl, b7_ BK147.out 3 rfl, b7_ BK148.out 0 rfl, b7_ BK148.out 1 rfl, b7_ BK148.out 2 rfl, b7_ BK148.out 3 rfl⟩ (fun hHeld => ?_)
   clear hK K
   refine norm_ (a' := ?_) ?_ ?_
   rotate_left
   ·
    show Act.put _ (some 30) _ = _
    simp only [Act.put, List.setIfInBounds_toArray, List.set_cons_zero, List.set_cons_succ, i64_w, i32_w]
    rfl
   exact norm_ (by simp only [putAll, Act.put, List.setIfInBounds_toArray, List.set_cons_zero, List.set_cons_succ] <;> rfl) (hJ1_8_9 (gb185, gb186) _ ⟨hHeld, BK147.out, BK148.out, BK167.out, BK168.out, BK185.out, BK186.out, GW185.out, GE185.out, NB147_185.out, NB185_147.out, NB148_185.out, NB185_148.out, NB167_185.out, NB185_167.out, NB168_185.out, NB185_168.out, NB186_185.out, NB185_186.out, GW186.out, GE186.out, NB147_186.out, NB186_147.out, NB148_186.out, NB186_148.out, NB167_186.out, NB186_167.out, NB168_186.out, NB186_168.out, HB.out⟩)
  intro hJ8_9
  refine join_ (σ := Unit) 9 #[true, true, true, false, false, false, false, false, false, false, false, false] (fun s_ => [(30, .agg #[.bool t169, .int .i64 t170, .int .i64 t171, .string t172])]) (fun s_ w' => (w'.cell? ⟨gb147, 0, none⟩ = some (.bool a0_0) ∧ w'.cell? ⟨gb147, 1, none⟩ = some (.int .i64 a0_1) ∧ w'.cell? ⟨gb147, 2, none⟩ = some (.int .i64 a0_2) ∧ w'.cell? ⟨gb147, 3, none⟩ = some (.string a0_3) ∧ w'.cell? ⟨gb148, 0, none⟩ = some (.bool a1_0) ∧ w'.cell? ⟨gb148, 1, none⟩ = some (.int .i64 a1_1) ∧ w'.cell? ⟨gb148, 2, none⟩ = some (.int .i64 a1_2) ∧ w'.cell? ⟨gb148, 3, none⟩ = some (.string a1_3)) ∧ (w'.heap[gb147]? = some (.cells #[.bool a0_0, .int .i64 a0_1, .int .i64 a0_2, .string a0_3] 23 (0, 0))) ∧ (w'.heap[gb148]? = some (.cells #[.bool a1_0, .int .i64 a1_1, .int .i64 a1_2, .string a1_3] 23 (0, 0))) ∧ (w'.heap[gb167]? = some (.cells #[.bool t159, .int .i64 t160, .int .i64 t161, .string t162] 26 (0, 0))) ∧ (w'.heap[gb168]? = some (.cells #[.bool t163, .int .i64 t164, .int .i64 t165, .string t166] 26 (0, 0))) ∧ (Below w.heap.size w w')) ?_ ?_
  ·
   skip
   rintro _ w54 ⟨hS_, h0_, h1_, h2_, h3_, h4_⟩
   replace BK147 := Aside0.mk h0_
   replace BK148 := Aside0.mk h1_
   replace BK167 := Aside0.mk h2_
   replace BK168 := Aside0.mk h3_
   replace HB := Aside0.mk h4_
   clear h0_ h1_ h2_ h3_ h4_
   have hHeld : w54.cell? ⟨gb147, 0, none⟩ = some (.bool a0_0) ∧ w54.cell? ⟨gb147, 1, none⟩ = some (.int .i64 a0_1) ∧ w54.cell? ⟨gb147, 2, none⟩ = some (.int .i64 a0_2) ∧ w54.cell? ⟨gb147, 3, none⟩ = some (.string a0_3) ∧ w54.cell? ⟨gb148, 0, none⟩ = some (.bool a1_0) ∧ w54.cell? ⟨gb148, 1, none⟩ = some (.int .i64 a1_1) ∧ w54.cell? ⟨gb148, 2, none⟩ = some (.int .i64 a1_2) ∧ w54.cell? ⟨gb148, 3, none⟩ = some (.string a1_3) := hS_
   refine norm_ (a' := ?_) ?_ ?_
   rotate_left
   ·
    simp only [putAll, Act.put, List.setIfInBounds_toArray, List.set_cons_zero, List.set_cons_succ]
    rfl
   refine three_ (i := 3) (j := 8) (k := 9) (Ni := some 32) (Nj := some 8) (Nk := some 9) #[true, true, true, true, false, false, false, false, false, false, false, false] #[true, true, true, false, false, false, false, false, true, false, false, false] #[true, true, true, false, false, false, false, false, false, true, false, false] rfl rfl rfl rfl rfl rfl (three_of HT_.out (by kernel_rfl)) (by decide) (by decide) (by decide) (fun K hK => ?_) (fun K hK => ?_) (fun K hK => ?_)
   ·
    skip
    refine goes_ Try.func19 (by kernel_rfl) rfl #[.agg #[.bool a1_0, .int .i64 a1_1, .int .i64 a1_2, .string a1_3]] (by rfl) rfl rfl (by (try simp only [List.map_toArray, List.map_cons, List.map_nil]); first | done | rfl | (simp only [List.length_drop, List.length_take]; rfl)) ?_
    with_reducible refine (laws_toRec.calls a1_0 a1_1 a1_2 a1_3 t173 t174 t175 t176 _ A23.out).mono ?_
    rintro e w55 ⟨rfl, hb⟩
    refine ⟨_, rfl, ?_⟩
    replace BK147 := Aside0.mk (blk_below BK147.out hb)
    replace BK148 := Aside0.mk (blk_below BK148.out hb)
    replace BK167 := Aside0.mk (blk_below BK167.out hb)
    replace BK168 := Aside0.mk (blk_below BK168.out hb)
    replace HB := Aside0.mk (below_step HB.out hb)
    (try clear hb)
    (try clear hb2)
    (try clear hk)
    (try clear hi)
    refine hK.out _ _ ⟨b7_ BK147.out 0 rfl, b7_ BK147.out 1 rfl, b7_ BK147.out 2 rfl, b7_ BK147.out 3 rfl, b7_ BK148.out 0 rfl, b7_ BK148.out 1 rfl, b7_ BK148.out 2 rfl, b7_ BK148.out 3 rfl⟩ (fun hHeld => ?_)
    clear hK K
    refine norm_ (a' := ?_) ?_ ?_
    rotate_left
    ·
     show Act.put _ (some 32) _ = _
     simp only [Act.put, List.setIfInBounds_toArray, List.set_cons_zero, List.set_cons_succ, i64_w, i32_w]
     rfl
    exact norm_ (by simp only [putAll, Act.put, List.setIfInBounds_toArray, List.set_cons_zero, List.set_cons_succ] <;> rfl) (hJ1_3 () _ ⟨hHeld, BK147.out, BK148.out, BK167.out, BK168.out, HB.out⟩)
   ·
    skip
    refine box_step ?hg (N := 8) ?hd (cs := #[.bool false, .int .i64 0, .int .i64 0, .string (⟨#[]⟩ : ByteArray)]) (t := 26) ?hr ?_; (case hd => rfl); (case hg => rfl); (case hr => first | (go_simp; done) | (go_simp; rfl))
    intro gb185 hg w55 hbox hb
    have BK185 := Aside0.mk (hbox)
    have GW185 := Aside0.mk ((by rw [hg]; exact (below_size HB.out) : w.heap.size ≤ gb185))
    have GE185 := Aside0.mk ((by rw [hg]; exact (below_size HB.out) : w.heap.size ≤ gb185))
    have NB147_185 := Aside0.mk ((by rw [hg]; exact Nat.ne_of_lt (blk_lt BK147.out) : gb147 ≠ gb185))
    have NB185_147 := Aside0.mk ((by rw [hg]; exact Nat.ne_of_gt (blk_lt BK147.out) : gb185 ≠ gb147))
    have NB148_185 := Aside0.mk ((by rw [hg]; exact Nat.ne_of_lt (blk_lt BK148.out) : gb148 ≠ gb185))
    have NB185_148 := Aside0.mk ((by rw [hg]; exact Nat.ne_of_gt (blk_lt BK148.out) : gb185 ≠ gb148))
    have NB167_185 := Aside0.mk ((by rw [hg]; exact Nat.ne_of_lt (blk_lt BK167.out) : gb167 ≠ gb185))
    have NB185_167 := Aside0.mk ((by rw [hg]; exact Nat.ne_of_gt (blk_lt BK167.out) : gb185 ≠ gb167))
    have NB168_185 := Aside0.mk ((by rw [hg]; exact Nat.ne_of_lt (blk_lt BK168.out) : gb168 ≠ gb185))
    have NB185_168 := Aside0.mk ((by rw [hg]; exact Nat.ne_of_gt (blk_lt BK168.out) : gb185 ≠ gb168))
    replace BK147 := Aside0.mk (blk_below BK147.out hb)
    replace BK148 := Aside0.mk (blk_below BK148.out hb)
    replace BK167 := Aside0.mk (blk_below BK167.out hb)
    replace BK168 := Aside0.mk (blk_below BK168.out hb)
    replace HB := Aside0.mk (below_step HB.out hb)
    clear hb hbox hg
    refine hK.out _ _ ⟨b7_ BK147.out 0 rfl, b7_ BK147.out 1 rfl, b7_ BK147.out 2 rfl, b7_ BK147.out 3 rfl, b7_ BK148.out 0 rfl, b7_ BK148.out 1 rfl, b7_ BK148.out 2 rfl, b7_ BK148.out 3 rfl⟩ (fun hHeld => ?_)
    clear hK K
    refine norm_ (a' := ?_) ?_ ?_
    rotate_left
    ·
     show Act.put _ (some 8) _ = _
     simp only [Act.put, List.setIfInBounds_toArray, List.set_cons_zero, List.set_cons_succ, i64_w, i32_w]
     rfl
    exact norm_ (by simp only [putAll, Act.put, List.setIfInBounds_toArray, List.set_cons_zero, List.set_cons_succ] <;> rfl) (hJ1_8 (gb185) _ ⟨hHeld, BK147.out, BK148.out, BK167.out, BK168.out, BK185.out, GW185.out, GE185.out, NB147_185.out, NB185_147.out, NB148_185.out, NB185_148.out, NB167_185.out, NB185_167.out, NB168_185.out, NB185_168.out, HB.out⟩)
   skip
   refine box_step ?hg (N := 9) ?hd (cs := #[.bool false, .int .i64 0, .int .i64 0, .string (⟨#[]⟩ : ByteArray)]) (t := 26) ?hr ?_; (case hd => rfl); (case hg => rfl); (case hr => first | (go_simp; done) | (go_simp; rfl))
   intro gb186 hg w55 hbox hb
   have BK186 := Aside0.mk (hbox)
   have GW186 := Aside0.mk ((by rw [hg]; exact (below_size HB.out) : w.heap.size ≤ gb186))
   have GE186 := Aside0.mk ((by rw [hg]; exact (below_size HB.out) : w.heap.size ≤ gb186))
   have NB147_186 := Aside0.mk ((by rw [hg]; exact Nat.ne_of_lt (blk_lt BK147.out) : gb147 ≠ gb186))
   have NB186_147 := Aside0.mk ((by rw [hg]; exact Nat.ne_of_gt (blk_lt BK147.out) : gb186 ≠ gb147))
   have NB148_186 := Aside0.mk ((by rw [hg]; exact Nat.ne_of_lt (blk_lt BK148.out) : gb148 ≠ gb186))
   have NB186_148 := Aside0.mk ((by rw [hg]; exact Nat.ne_of_gt (blk_lt BK148.out) : gb186 ≠ gb148))
   have NB167_186 := Aside0.mk ((by rw [hg]; exact Nat.ne_of_lt (blk_lt BK167.out) : gb167 ≠ gb186))
   have NB186_167 := Aside0.mk ((by rw [hg]; exact Nat.ne_of_gt (blk_lt BK167.out) : gb186 ≠ gb167))
   have NB168_186 := Aside0.mk ((by rw [hg]; exact Nat.ne_of_lt (blk_lt BK168.out) : gb168 ≠ gb186))
   have NB186_168 := Aside0.mk ((by rw [hg]; exact Nat.ne_of_gt (blk_lt BK168.out) : gb186 ≠ gb168))
   replace BK147 := Aside0.mk (blk_below BK147.out hb)
   replace BK148 := Aside0.mk (blk_below BK148.out hb)
   replace BK167 := Aside0.mk (blk_below BK167.out hb)
   replace BK168 := Aside0.mk (blk_below BK168.out hb)
   replace HB := Aside0.mk (below_step HB.out hb)
   clear hb hbox hg
   refine hK.out _ _ ⟨b7_ BK147.out 0 rfl, b7_ BK147.out 1 rfl, b7_ BK147.out 2 rfl, b7_ BK147.out 3 rfl, b7_ BK148.out 0 rfl, b7_ BK148.out 1 rfl, b7_ BK148.out 2 rfl, b7_ BK148.out 3 rfl⟩ (fun hHeld => ?_)
   clear hK K
   refine norm_ (a' := ?_) ?_ ?_
   rotate_left
   ·
    show Act.put _ (some 9) _ = _
    simp only [Act.put, List.setIfInBounds_toArray, List.set_cons_zero, List.set_cons_succ, i64_w, i32_w]
    rfl
   exact norm_ (by simp only [putAll, Act.put, List.setIfInBounds_toArray, List.set_cons_zero, List.set_cons_succ] <;> rfl) (hJ1_9 (gb186) _ ⟨hHeld, BK147.out, BK148.out, BK167.out, BK168.out, BK186.out, GW186.out, GE186.out, NB147_186.out, NB186_147.out, NB148_186.out, NB186_148.out, NB167_186.out, NB186_167.out, NB168_186.out, NB186_168.out, HB.out⟩)
  intro hJ1
  refine join_ (σ := Nat) 9 #[true, false, true, false, false, false, false, false, true, false, false, false] (fun s_ => [(8, .pointer (some ⟨s_, 0, none⟩))]) (fun s_ w' => (w'.cell? ⟨gb147, 0, none⟩ = some (.bool a0_0) ∧ w'.cell? ⟨gb147, 1, none⟩ = some (.int .i64 a0_1) ∧ w'.cell? ⟨gb147, 2, none⟩ = some (.int .i64 a0_2) ∧ w'.cell? ⟨gb147, 3, none⟩ = some (.string a0_3) ∧ w'.cell? ⟨gb148, 0, none⟩ = some (.bool a1_0) ∧ w'.cell? ⟨gb148, 1, none⟩ = some (.int .i64 a1_1) ∧ w'.cell? ⟨gb148, 2, none⟩ = some (.int .i64 a1_2) ∧ w'.cell? ⟨gb148, 3, none⟩ = some (.string a1_3)) ∧ (w'.heap[gb147]? = some (.cells #[.bool a0_0, .int .i64 a0_1, .int .i64 a0_2, .string a0_3] 23 (0, 0))) ∧ (w'.heap[gb148]? = some (.cells #[.bool a1_0, .int .i64 a1_1, .int .i64 a1_2, .string a1_3] 23 (0, 0))) ∧ (w'.heap[gb167]? = some (.cells #[.bool t159, .int .i64 t160, .int .i64 t161, .string t162] 26 (0, 0))) ∧ (w'.heap[gb168]? = some (.cells #[.bool t163, .int .i64 t164, .int .i64 t165, .string t166] 26 (0, 0))) ∧ (w'.heap[s_]? = some (.cells #[.bool false, .int .i64 0, .int .i64 0, .string (⟨#[]⟩ : ByteArray)] 26 (0, 0))) ∧ (w.heap.size ≤ s_) ∧ (w.heap.size ≤ s_) ∧ (gb147 ≠ s_) ∧ (s_ ≠ gb147) ∧ (gb148 ≠ s_) ∧ (s_ ≠ gb148) ∧ (gb167 ≠ s_) ∧ (s_ ≠ gb167) ∧ (gb168 ≠ s_) ∧ (s_ ≠ gb168) ∧ (Below w.heap.size w w')) ?_ ?_
  ·
   skip
   rintro gb185 w54 ⟨hS_, h0_, h1_, h2_, h3_, h4_, h5_, h6_, h7_, h8_, h9_, h10_, h11_, h12_, h13_, h14_, h15_⟩
   have BK185 := Aside0.mk h4_
   have GW185 := Aside0.mk h5_
   have GE185 := Aside0.mk h6_
   have NB147_185 := Aside0.mk h7_
   have NB185_147 := Aside0.mk h8_
   have NB148_185 := Aside0.mk h9_
   have NB185_148 := Aside0.mk h10_
   have NB167_185 := Aside0.mk h11_
   have NB185_167 := Aside0.mk h12_
   have NB168_185 := Aside0.mk h13_
   have NB185_168 := Aside0.mk h14_
   replace BK147 := Aside0.mk h0_
   replace BK148 := Aside0.mk h1_
   replace BK167 := Aside0.mk h2_
   replace BK168 := Aside0.mk h3_
   replace HB := Aside0.mk h15_
   clear h0_ h1_ h2_ h3_ h4_ h5_ h6_ h7_ h8_ h9_ h10_ h11_ h12_ h13_ h14_ h15_
   have hHeld : w54.cell? ⟨gb147, 0, none⟩ = some (.bool a0_0) ∧ w54.cell? ⟨gb147, 1, none⟩ = some (.int .i64 a0_1) ∧ w54.cell? ⟨gb147, 2, none⟩ = some (.int .i64 a0_2) ∧ w54.cell? ⟨gb147, 3, none⟩ = some (.string a0_3) ∧ w54.cell? ⟨gb148, 0, none⟩ = some (.bool a1_0) ∧ w54.cell? ⟨gb148, 1, none⟩ = some (.int .i64 a1_1) ∧ w54.cell? ⟨gb148, 2, none⟩ = some (.int .i64 a1_2) ∧ w54.cell? ⟨gb148, 3, none⟩ = some (.string a1_3) := hS_
   refine norm_ (a' := ?_) ?_ ?_
   rotate_left
   ·
    simp only [putAll, Act.put, List.setIfInBounds_toArray, List.set_cons_zero, List.set_cons_succ]
    rfl
   refine two_ (i := 1) (j := 9) (Ni := some 30) (Nj := some 9) #[true, true, true, false, false, false, false, false, true, false, false, false] #[true, false, true, false, false, false, false, false, true, true, false, false] rfl rfl rfl rfl (two_of HT_.out (by kernel_rfl)) (by decide) (by decide) (fun K hK => ?_) (fun K hK => ?_)
   ·
    skip
    refine goes_ Try.func19 (by kernel_rfl) rfl #[.agg #[.bool a0_0, .int .i64 a0_1, .int .i64 a0_2, .string a0_3]] (by rfl) rfl rfl (by (try simp only [List.map_toArray, List.map_cons, List.map_nil]); first | done | rfl | (simp only [List.length_drop, List.length_take]; rfl)) ?_
    with_reducible refine (laws_toRec.calls a0_0 a0_1 a0_2 a0_3 t169 t170 t171 t172 _ A22.out).mono ?_
    rintro e w55 ⟨rfl, hb⟩
    refine ⟨_, rfl, ?_⟩
    replace BK147 := Aside0.mk (blk_below BK147.out hb)
    replace BK148 := Aside0.mk (blk_below BK148.out hb)
    replace BK167 := Aside0.mk (blk_below BK167.out hb)
    replace BK168 := Aside0.mk (blk_below BK168.out hb)
    replace BK185 := Aside0.mk (blk_below BK185.out hb)
    replace HB := Aside0.mk (below_step HB.out hb)
    (try clear hb)
    (try clear hb2)
    (try clear hk)
    (try clear hi)
    refine hK.out _ _ ⟨b7_ BK147.out 0 rfl, b7_ BK147.out 1 rfl, b7_ BK147.out 2 rfl, b7_ BK147.out 3 rfl, b7_ BK148.out 0 rfl, b7_ BK148.out 1 rfl, b7_ BK148.out 2 rfl, b7_ BK148.out 3 rfl⟩ (fun hHeld => ?_)
    clear hK K
    refine norm_ (a' := ?_) ?_ ?_
    rotate_left
    ·
     show Act.put _ (some 30) _ = _
     simp only [Act.put, List.setIfInBounds_toArray, List.set_cons_zero, List.set_cons_succ, i64_w, i32_w]
     rfl
    exact norm_ (by simp only [putAll, Act.put, List.setIfInBounds_toArray, List.set_cons_zero, List.set_cons_succ] <;> rfl) (hJ1_8 (gb185) _ ⟨hHeld, BK147.out, BK148.out, BK167.out, BK168.out, BK185.out, GW185.out, GE185.out, NB147_185.out, NB185_147.out, NB148_185.out, NB185_148.out, NB167_185.out, NB185_167.out, NB168_185.out, NB185_168.out, HB.out⟩)
   skip
   refine box_step ?hg (N := 9) ?hd (cs := #[.bool false, .int .i64 0, .int .i64 0, .string (⟨#[]⟩ : ByteArray)]) (t := 26) ?hr ?_; (case hd => rfl); (case hg => rfl); (case hr => first | (go_simp; done) | (go_simp; rfl))
   intro gb186 hg w55 hbox hb
   have BK186 := Aside0.mk (hbox)
   have GW186 := Aside0.mk ((by rw [hg]; exact (below_size HB.out) : w.heap.size ≤ gb186))
   have GE186 := Aside0.mk ((by rw [hg]; exact (below_size HB.out) : w.heap.size ≤ gb186))
   have NB147_186 := Aside0.mk ((by rw [hg]; exact Nat.ne_of_lt (blk_lt BK147.out) : gb147 ≠ gb186))
   have NB186_147 := Aside0.mk ((by rw [hg]; exact Nat.ne_of_gt (blk_lt BK147.out) : gb186 ≠ gb147))
   have NB148_186 := Aside0.mk ((by rw [hg]; exact Nat.ne_of_lt (blk_lt BK148.out) : gb148 ≠ gb186))
   have NB186_148 := Aside0.mk ((by rw [hg]; exact Nat.ne_of_gt (blk_lt BK148.out) : gb186 ≠ gb148))
   have NB167_186 := Aside0.mk ((by rw [hg]; exact Nat.ne_of_lt (blk_lt BK167.out) : gb167 ≠ gb186))
   have NB186_167 := Aside0.mk ((by rw [hg]; exact Nat.ne_of_gt (blk_lt BK167.out) : gb186 ≠ gb167))
   have NB168_186 := Aside0.mk ((by rw [hg]; exact Nat.ne_of_lt (blk_lt BK168.out) : gb168 ≠ gb186))
   have NB186_168 := Aside0.mk ((by rw [hg]; exact Nat.ne_of_gt (blk_lt BK168.out) : gb186 ≠ gb168))
   have NB185_186 := Aside0.mk ((by rw [hg]; exact Nat.ne_of_lt (blk_lt BK185.out) : gb185 ≠ gb186))
   have NB186_185 := Aside0.mk ((by rw [hg]; exact Nat.ne_of_gt (blk_lt BK185.out) : gb186 ≠ gb185))
   replace BK147 := Aside0.mk (blk_below BK147.out hb)
   replace BK148 := Aside0.mk (blk_below BK148.out hb)
   replace BK167 := Aside0.mk (blk_below BK167.out hb)
   replace BK168 := Aside0.mk (blk_below BK168.out hb)
   replace BK185 := Aside0.mk (blk_below BK185.out hb)
   replace HB := Aside0.mk (below_step HB.out hb)
   clear hb hbox hg
   refine hK.out _ _ ⟨b7_ BK147.out 0 rfl, b7_ BK147.out 1 rfl, b7_ BK147.out 2 rfl, b7_ BK147.out 3 rfl, b7_ BK148.out 0 rfl, b7_ BK148.out 1 rfl, b7_ BK148.out 2 rfl, b7_ BK148.out 3 rfl⟩ (fun hHeld => ?_)
   clear hK K
   refine norm_ (a' := ?_) ?_ ?_
   rotate_left
   ·
    show Act.put _ (some 9) _ = _
    simp only [Act.put, List.setIfInBounds_toArray, List.set_cons_zero, List.set_cons_succ, i64_w, i32_w]
    rfl
   exact norm_ (by simp only [putAll, Act.put, List.setIfInBounds_toArray, List.set_cons_zero, List.set_cons_succ] <;> rfl) (hJ8_9 (gb185, gb186) _ ⟨hHeld, BK147.out, BK148.out, BK167.out, BK168.out, BK185.out, BK186.out, GW185.out, GE185.out, NB147_185.out, NB185_147.out, NB148_185.out, NB185_148.out, NB167_185.out, NB185_167.out, NB168_185.out, NB185_168.out, NB186_185.out, NB185_186.out, GW186.out, GE186.out, NB147_186.out, NB186_147.out, NB148_186.out, NB186_148.out, NB167_186.out, NB186_167.out, NB168_186.out, NB186_168.out, HB.out⟩)
  intro hJ8
  refine join_ (σ := Nat) 9 #[true, false, true, false, false, false, false, false, false, true, false, false] (fun s_ => [(9, .pointer (some ⟨s_, 0, none⟩))]) (fun s_ w' => (w'.cell? ⟨gb147, 0, none⟩ = some (.bool a0_0) ∧ w'.cell? ⟨gb147, 1, none⟩ = some (.int .i64 a0_1) ∧ w'.cell? ⟨gb147, 2, none⟩ = some (.int .i64 a0_2) ∧ w'.cell? ⟨gb147, 3, none⟩ = some (.string a0_3) ∧ w'.cell? ⟨gb148, 0, none⟩ = some (.bool a1_0) ∧ w'.cell? ⟨gb148, 1, none⟩ = some (.int .i64 a1_1) ∧ w'.cell? ⟨gb148, 2, none⟩ = some (.int .i64 a1_2) ∧ w'.cell? ⟨gb148, 3, none⟩ = some (.string a1_3)) ∧ (w'.heap[gb147]? = some (.cells #[.bool a0_0, .int .i64 a0_1, .int .i64 a0_2, .string a0_3] 23 (0, 0))) ∧ (w'.heap[gb148]? = some (.cells #[.bool a1_0, .int .i64 a1_1, .int .i64 a1_2, .string a1_3] 23 (0, 0))) ∧ (w'.heap[gb167]? = some (.cells #[.bool t159, .int .i64 t160, .int .i64 t161, .string t162] 26 (0, 0))) ∧ (w'.heap[gb168]? = some (.cells #[.bool t163, .int .i64 t164, .int .i64 t165, .string t166] 26 (0, 0))) ∧ (w'.heap[s_]? = some (.cells #[.bool false, .int .i64 0, .int .i64 0, .string (⟨#[]⟩ : ByteArray)] 26 (0, 0))) ∧ (w.heap.size ≤ s_) ∧ (w.heap.size ≤ s_) ∧ (gb147 ≠ s_) ∧ (s_ ≠ gb147) ∧ (gb148 ≠ s_) ∧ (s_ ≠ gb148) ∧ (gb167 ≠ s_) ∧ (s_ ≠ gb167) ∧ (gb168 ≠ s_) ∧ (s_ ≠ gb168) ∧ (Below w.heap.size w w')) ?_ ?_
  ·
   skip
   rintro gb186 w54 ⟨hS_, h0_, h1_, h2_, h3_, h4_, h5_, h6_, h7_, h8_, h9_, h10_, h11_, h12_, h13_, h14_, h15_⟩
   have BK186 := Aside0.mk h4_
   have GW186 := Aside0.mk h5_
   have GE186 := Aside0.mk h6_
   have NB147_186 := Aside0.mk h7_
   have NB186_147 := Aside0.mk h8_
   have NB148_186 := Aside0.mk h9_
   have NB186_148 := Aside0.mk h10_
   have NB167_186 := Aside0.mk h11_
   have NB186_167 := Aside0.mk h12_
   have NB168_186 := Aside0.mk h13_
   have NB186_168 := Aside0.mk h14_
   replace BK147 := Aside0.mk h0_
   replace BK148 := Aside0.mk h1_
   replace BK167 := Aside0.mk h2_
   replace BK168 := Aside0.mk h3_
   replace HB := Aside0.mk h15_
   clear h0_ h1_ h2_ h3_ h4_ h5_ h6_ h7_ h8_ h9_ h10_ h11_ h12_ h13_ h14_ h15_
   have hHeld : w54.cell? ⟨gb147, 0, none⟩ = some (.bool a0_0) ∧ w54.cell? ⟨gb147, 1, none⟩ = some (.int .i64 a0_1) ∧ w54.cell? ⟨gb147, 2, none⟩ = some (.int .i64 a0_2) ∧ w54.cell? ⟨gb147, 3, none⟩ = some (.string a0_3) ∧ w54.cell? ⟨gb148, 0, none⟩ = some (.bool a1_0) ∧ w54.cell? ⟨gb148, 1, none⟩ = some (.int .i64 a1_1) ∧ w54.cell? ⟨gb148, 2, none⟩ = some (.int .i64 a1_2) ∧ w54.cell? ⟨gb148, 3, none⟩ = some (.string a1_3) := hS_
   refine norm_ (a' := ?_) ?_ ?_
   rotate_left
   ·
    simp only [putAll, Act.put, List.setIfInBounds_toArray, List.set_cons_zero, List.set_cons_succ]
    rfl
   refine two_ (i := 1) (j := 8) (Ni := some 30) (Nj := some 8) #[true, true, true, false, false, false, false, false, false, true, false, false] #[true, false, true, false, false, false, false, false, true, true, false, false] rfl rfl rfl rfl (two_of HT_.out (by kernel_rfl)) (by decide) (by decide) (fun K hK => ?_) (fun K hK => ?_)
   ·
    skip
    refine goes_ Try.func19 (by kernel_rfl) rfl #[.agg #[.bool a0_0, .int .i64 a0_1, .int .i64 a0_2, .string a0_3]] (by rfl) rfl rfl (by (try simp only [List.map_toArray, List.map_cons, List.map_nil]); first | done | rfl | (simp only [List.length_drop, List.length_take]; rfl)) ?_
    with_reducible refine (laws_toRec.calls a0_0 a0_1 a0_2 a0_3 t169 t170 t171 t172 _ A22.out).mono ?_
    rintro e w55 ⟨rfl, hb⟩
    refine ⟨_, rfl, ?_⟩
    replace BK147 := Aside0.mk (blk_below BK147.out hb)
    replace BK148 := Aside0.mk (blk_below BK148.out hb)
    replace BK167 := Aside0.mk (blk_below BK167.out hb)
    replace BK168 := Aside0.mk (blk_below BK168.out hb)
    replace BK186 := Aside0.mk (blk_below BK186.out hb)
    replace HB := Aside0.mk (below_step HB.out hb)
    (try clear hb)
    (try clear hb2)
    (try clear hk)
    (try clear hi)
    refine hK.out _ _ ⟨b7_ BK147.out 0 rfl, b7_ BK147.out 1 rfl, b7_ BK147.out 2 rfl, b7_ BK147.out 3 rfl, b7_ BK148.out 0 rfl, b7_ BK148.out 1 rfl, b7_ BK148.out 2 rfl, b7_ BK148.out 3 rfl⟩ (fun hHeld => ?_)
    clear hK K
    refine norm_ (a' := ?_) ?_ ?_
    rotate_left
    ·
     show Act.put _ (some 30) _ = _
     simp only [Act.put, List.setIfInBounds_toArray, List.set_cons_zero, List.set_cons_succ, i64_w, i32_w]
     rfl
    exact norm_ (by simp only [putAll, Act.put, List.setIfInBounds_toArray, List.set_cons_zero, List.set_cons_succ] <;> rfl) (hJ1_9 (gb186) _ ⟨hHeld, BK147.out, BK148.out, BK167.out, BK168.out, BK186.out, GW186.out, GE186.out, NB147_186.out, NB186_147.out, NB148_186.out, NB186_148.out, NB167_186.out, NB186_167.out, NB168_186.out, NB186_168.out, HB.out⟩)
   skip
   refine box_step ?hg (N := 8) ?hd (cs := #[.bool false, .int .i64 0, .int .i64 0, .string (⟨#[]⟩ : ByteArray)]) (t := 26) ?hr ?_; (case hd => rfl); (case hg => rfl); (case hr => first | (go_simp; done) | (go_simp; rfl))
   intro gb185 hg w55 hbox hb
   have BK185 := Aside0.mk (hbox)
   have GW185 := Aside0.mk ((by rw [hg]; exact (below_size HB.out) : w.heap.size ≤ gb185))
   have GE185 := Aside0.mk ((by rw [hg]; exact (below_size HB.out) : w.heap.size ≤ gb185))
   have NB147_185 := Aside0.mk ((by rw [hg]; exact Nat.ne_of_lt (blk_lt BK147.out) : gb147 ≠ gb185))
   have NB185_147 := Aside0.mk ((by rw [hg]; exact Nat.ne_of_gt (blk_lt BK147.out) : gb185 ≠ gb147))
   have NB148_185 := Aside0.mk ((by rw [hg]; exact Nat.ne_of_lt (blk_lt BK148.out) : gb148 ≠ gb185))
   have NB185_148 := Aside0.mk ((by rw [hg]; exact Nat.ne_of_gt (blk_lt BK148.out) : gb185 ≠ gb148))
   have NB167_185 := Aside0.mk ((by rw [hg]; exact Nat.ne_of_lt (blk_lt BK167.out) : gb167 ≠ gb185))
   have NB185_167 := Aside0.mk ((by rw [hg]; exact Nat.ne_of_gt (blk_lt BK167.out) : gb185 ≠ gb167))
   have NB168_185 := Aside0.mk ((by rw [hg]; exact Nat.ne_of_lt (blk_lt BK168.out) : gb168 ≠ gb185))
   have NB185_168 := Aside0.mk ((by rw [hg]; exact Nat.ne_of_gt (blk_lt BK168.out) : gb185 ≠ gb168))
   have NB186_185 := Aside0.mk ((by rw [hg]; exact Nat.ne_of_lt (blk_lt BK186.out) : gb186 ≠ gb185))
   have NB185_186 := Aside0.mk ((by rw [hg]; exact Nat.ne_of_gt (blk_lt BK186.out) : gb185 ≠ gb186))
   replace BK147 := Aside0.mk (blk_below BK147.out hb)
   replace BK148 := Aside0.mk (blk_below BK148.out hb)
   replace BK167 := Aside0.mk (blk_below BK167.out hb)
   replace BK168 := Aside0.mk (blk_below BK168.out hb)
   replace BK186 := Aside0.mk (blk_below BK186.out hb)
   replace HB := Aside0.mk (below_step HB.out hb)
   clear hb hbox hg
   refine hK.out _ _ ⟨b7_ BK147.out 0 rfl, b7_ BK147.out 1 rfl, b7_ BK147.out 2 rfl, b7_ BK147.out 3 rfl, b7_ BK148.out 0 rfl, b7_ BK148.out 1 rfl, b7_ BK148.out 2 rfl, b7_ BK148.out 3 rfl⟩ (fun hHeld => ?_)
   clear hK K
   refine norm_ (a' := ?_) ?_ ?_
   rotate_left
   ·
    show Act.put _ (some 8) _ = _
    simp only [Act.put, List.setIfInBounds_toArray, List.set_cons_zero, List.set_cons_succ, i64_w, i32_w]
    rfl
   exact norm_ (by simp only [putAll, Act.put, List.setIfInBounds_toArray, List.set_cons_zero, List.set_cons_succ] <;> rfl) (hJ8_9 (gb185, gb186) _ ⟨hHeld, BK147.out, BK148.out, BK167.out, BK168.out, BK185.out, BK186.out, GW185.out, GE185.out, NB147_185.out, NB185_147.out, NB148_185.out, NB185_148.out, NB167_185.out, NB185_167.out, NB168_185.out, NB185_168.out, NB186_185.out, NB185_186.out, GW186.out, GE186.out, NB147_186.out, NB186_147.out, NB148_186.out, NB186_148.out, NB167_186.out, NB186_167.out, NB168_186.out, NB186_168.out, HB.out⟩)
  intro hJ9
  refine three_ (i := 1) (j := 8) (k := 9) (Ni := some 30) (Nj := some 8) (Nk := some 9) #[true, true, true, false, false, false, false, false, false, false, false, false] #[true, false, true, false, false, false, false, false, true, false, false, false] #[true, false, true, false, false, false, false, false, false, true, false, false] rfl rfl rfl rfl rfl rfl (three_of HT_.out (by kernel_rfl)) (by decide) (by decide) (by decide) (fun K hK => ?_) (fun K hK => ?_) (fun K hK => ?_)
  ·
   skip
   refine goes_ Try.func19 (by kernel_rfl) rfl #[.agg #[.bool a0_0, .int .i64 a0_1, .int .i64 a0_2, .string a0_3]] (by rfl) rfl rfl (by (try simp only [List.map_toArray, List.map_cons, List.map_nil]); first | done | rfl | (simp only [List.length_drop, List.length_take]; rfl)) ?_
   with_reducible refine (laws_toRec.calls a0_0 a0_1 a0_2 a0_3 t169 t170 t171 t172 _ A22.out).mono ?_
   rintro e w53 ⟨rfl, hb⟩
   refine ⟨_, rfl, ?_⟩
   replace BK147 := Aside0.mk (blk_below BK147.out hb)
   replace BK148 := Aside0.mk (blk_below BK148.out hb)
   replace BK167 := Aside0.mk (blk_below BK167.out hb)
   replace BK168 := Aside0.mk (blk_below BK168.out hb)
   replace HB := Aside0.mk (below_step HB.out hb)
   (try clear hb)
   (try clear hb2)
   (try clear hk)
   (try clear hi)
   refine hK.out _ _ ⟨b7_ BK147.out 0 rfl, b7_ BK147.out 1 rfl, b7_ BK147.out 2 rfl, b7_ BK147.out 3 rfl, b7_ BK148.out 0 rfl, b7_ BK148.out 1 rfl, b7_ BK148.out 2 rfl, b7_ BK148.out 3 rfl⟩ (fun hHeld => ?_)
   clear hK K
   refine norm_ (a' := ?_) ?_ ?_
   rotate_left
   ·
    show Act.put _ (some 30) _ = _
    simp only [Act.put, List.setIfInBounds_toArray, List.set_cons_zero, List.set_cons_succ, i64_w, i32_w]
    rfl
   exact norm_ (by simp only [putAll, Act.put, List.setIfInBounds_toArray, List.set_cons_zero, List.set_cons_succ] <;> rfl) (hJ1 () _ ⟨hHeld, BK147.out, BK148.out, BK167.out, BK168.out, HB.out⟩)
  ·
   skip
   refine box_step ?hg (N := 8) ?hd (cs := #[.bool false, .int .i64 0, .int .i64 0, .string (⟨#[]⟩ : ByteArray)]) (t := 26) ?hr ?_; (case hd => rfl); (case hg => rfl); (case hr => first | (go_simp; done) | (go_simp; rfl))
   intro gb185 hg w53 hbox hb
   have BK185 := Aside0.mk (hbox)
   have GW185 := Aside0.mk ((by rw [hg]; exact (below_size HB.out) : w.heap.size ≤ gb185))
   have GE185 := Aside0.mk ((by rw [hg]; exact (below_size HB.out) : w.heap.size ≤ gb185))
   have NB147_185 := Aside0.mk ((by rw [hg]; exact Nat.ne_of_lt (blk_lt BK147.out) : gb147 ≠ gb185))
   have NB185_147 := Aside0.mk ((by rw [hg]; exact Nat.ne_of_gt (blk_lt BK147.out) : gb185 ≠ gb147))
   have NB148_185 := Aside0.mk ((by rw [hg]; exact Nat.ne_of_lt (blk_lt BK148.out) : gb148 ≠ gb185))
   have NB185_148 := Aside0.mk ((by rw [hg]; exact Nat.ne_of_gt (blk_lt BK148.out) : gb185 ≠ gb148))
   have NB167_185 := Aside0.mk ((by rw [hg]; exact Nat.ne_of_lt (blk_lt BK167.out) : gb167 ≠ gb185))
   have NB185_167 := Aside0.mk ((by rw [hg]; exact Nat.ne_of_gt (blk_lt BK167.out) : gb185 ≠ gb167))
   have NB168_185 := Aside0.mk ((by rw [hg]; exact Nat.ne_of_lt (blk_lt BK168.out) : gb168 ≠ gb185))
   have NB185_168 := Aside0.mk ((by rw [hg]; exact Nat.ne_of_gt (blk_lt BK168.out) : gb185 ≠ gb168))
   replace BK147 := Aside0.mk (blk_below BK147.out hb)
   replace BK148 := Aside0.mk (blk_below BK148.out hb)
   replace BK167 := Aside0.mk (blk_below BK167.out hb)
   replace BK168 := Aside0.mk (blk_below BK168.out hb)
   replace HB := Aside0.mk (below_step HB.out hb)
   clear hb hbox hg
   refine hK.out _ _ ⟨b7_ BK147.out 0 rfl, b7_ BK147.out 1 rfl, b7_ BK147.out 2 rfl, b7_ BK147.out 3 rfl, b7_ BK148.out 0 rfl, b7_ BK148.out 1 rfl, b7_ BK148.out 2 rfl, b7_ BK148.out 3 rfl⟩ (fun hHeld => ?_)
   clear hK K
   refine norm_ (a' := ?_) ?_ ?_
   rotate_left
   ·
    show Act.put _ (some 8) _ = _
    simp only [Act.put, List.setIfInBounds_toArray, List.set_cons_zero, List.set_cons_succ, i64_w, i32_w]
    rfl
   exact norm_ (by simp only [putAll, Act.put, List.setIfInBounds_toArray, List.set_cons_zero, List.set_cons_succ] <;> rfl) (hJ8 (gb185) _ ⟨hHeld, BK147.out, BK148.out, BK167.out, BK168.out, BK185.out, GW185.out, GE185.out, NB147_185.out, NB185_147.out, NB148_185.out, NB185_148.out, NB167_185.out, NB185_167.out, NB168_185.out, NB185_168.out, HB.out⟩)
  skip
  refine box_step ?hg (N := 9) ?hd (cs := #[.bool false, .int .i64 0, .int .i64 0, .string (⟨#[]⟩ : ByteArray)]) (t := 26) ?hr ?_; (case hd => rfl); (case hg => rfl); (case hr => first | (go_simp; done) | (go_simp; rfl))
  intro gb186 hg w53 hbox hb
  have BK186 := Aside0.mk (hbox)
  have GW186 := Aside0.mk ((by rw [hg]; exact (below_size HB.out) : w.heap.size ≤ gb186))
  have GE186 := Aside0.mk ((by rw [hg]; exact (below_size HB.out) : w.heap.size ≤ gb186))
  have NB147_186 := Aside0.mk ((by rw [hg]; exact Nat.ne_of_lt (blk_lt BK147.out) : gb147 ≠ gb186))
  have NB186_147 := Aside0.mk ((by rw [hg]; exact Nat.ne_of_gt (blk_lt BK147.out) : gb186 ≠ gb147))
  have NB148_186 := Aside0.mk ((by rw [hg]; exact Nat.ne_of_lt (blk_lt BK148.out) : gb148 ≠ gb186))
  have NB186_148 := Aside0.mk ((by rw [hg]; exact Nat.ne_of_gt (blk_lt BK148.out) : gb186 ≠ gb148))
  have NB167_186 := Aside0.mk ((by rw [hg]; exact Nat.ne_of_lt (blk_lt BK167.out) : gb167 ≠ gb186))
  have NB186_167 := Aside0.mk ((by rw [hg]; exact Nat.ne_of_gt (blk_lt BK167.out) : gb186 ≠ gb167))
  have NB168_186 := Aside0.mk ((by rw [hg]; exact Nat.ne_of_lt (blk_lt BK168.out) : gb168 ≠ gb186))
  have NB186_168 := Aside0.mk ((by rw [hg]; exact Nat.ne_of_gt (blk_lt BK168.out) : gb186 ≠ gb168))
  replace BK147 := Aside0.mk (blk_below BK147.out hb)
  replace BK148 := Aside0.mk (blk_below BK148.out hb)
  replace BK167 := Aside0.mk (blk_below BK167.out hb)
  replace BK168 := Aside0.mk (blk_below BK168.out hb)
  replace HB := Aside0.mk (below_step HB.out hb)
  clear hb hbox hg
  refine hK.out _ _ ⟨b7_ BK147.out 0 rfl, b7_ BK147.out 1 rfl, b7_ BK147.out 2 rfl, b7_ BK147.out 3 rfl, b7_ BK148.out 0 rfl, b7_ BK148.out 1 rfl, b7_ BK148.out 2 rfl, b7_ BK148.out 3 rfl⟩ (fun hHeld => ?_)
  clear hK K
  refine norm_ (a' := ?_) ?_ ?_
  rotate_left
  ·
   show Act.put _ (some 9) _ = _
   simp only [Act.put, List.setIfInBounds_toArray, List.set_cons_zero, List.set_cons_succ, i64_w, i32_w]
   rfl
  exact norm_ (by simp only [putAll, Act.put, List.setIfInBounds_toArray, List.set_cons_zero, List.set_cons_succ] <;> rfl) (hJ9 (gb186) _ ⟨hHeld, BK147.out, BK148.out, BK167.out, BK168.out, BK186.out, GW186.out, GE186.out, NB147_186.out, NB186_147.out, NB148_186.out, NB186_148.out, NB167_186.out, NB186_167.out, NB168_186.out, NB186_168.out, HB.out⟩)
 rintro ⟨gb185, gb186⟩ w58 ⟨hS_, h0_, h1_, h2_, h3_, h4_, h5_, h6_, h7_, h8_, h9_, h10_, h11_, h12_, h13_, h14_, h15_, h16_, h17_, h18_, h19_, h20_, h21_, h22_, h23_, h24_, h25_, h26_, h27_, h28_⟩
 have BK185 := Aside0.mk h4_
 have BK186 := Aside0.mk h5_
 have GW185 := Aside0.mk h6_
 have GE185 := Aside0.mk h7_
 have NB147_185 := Aside0.mk h8_
 have NB185_147 := Aside0.mk h9_
 have NB148_185 := Aside0.mk h10_
 have NB185_148 := Aside0.mk h11_
 have NB167_185 := Aside0.mk h12_
 have NB185_167 := Aside0.mk h13_
 have NB168_185 := Aside0.mk h14_
 have NB185_168 := Aside0.mk h15_
 have NB186_185 := Aside0.mk h16_
 have NB185_186 := Aside0.mk h17_
 have GW186 := Aside0.mk h18_
 have GE186 := Aside0.mk h19_
 have NB147_186 := Aside0.mk h20_
 have NB186_147 := Aside0.mk h21_
 have NB148_186 := Aside0.mk h22_
 have NB186_148 := Aside0.mk h23_
 have NB167_186 := Aside0.mk h24_
 have NB186_167 := Aside0.mk h25_
 have NB168_186 := Aside0.mk h26_
 have NB186_168 := Aside0.mk h27_
 replace BK147 := Aside0.mk h0_
 replace BK148 := Aside0.mk h1_
 replace BK167 := Aside0.mk h2_
 replace BK168 := Aside0.mk h3_
 replace HB := Aside0.mk h28_
 clear h0_ h1_ h2_ h3_ h4_ h5_ h6_ h7_ h8_ h9_ h10_ h11_ h12_ h13_ h14_ h15_ h16_ h17_ h18_ h19_ h20_ h21_ h22_ h23_ h24_ h25_ h26_ h27_ h28_
 have hHeld : w58.cell? ⟨gb147, 0, none⟩ = some (.bool a0_0) ∧ w58.cell? ⟨gb147, 1, none⟩ = some (.int .i64 a0_1) ∧ w58.cell? ⟨gb147, 2, none⟩ = some (.int .i64 a0_2) ∧ w58.cell? ⟨gb147, 3, none⟩ = some (.string a0_3) ∧ w58.cell? ⟨gb148, 0, none⟩ = some (.bool a1_0) ∧ w58.cell? ⟨gb148, 1, none⟩ = some (.int .i64 a1_1) ∧ w58.cell? ⟨gb148, 2, none⟩ = some (.int .i64 a1_2) ∧ w58.cell? ⟨gb148, 3, none⟩ = some (.string a1_3) := hS_
 refine norm_ (a' := ?_) ?_ ?_
 rotate_left
 ·
  simp only [putAll, Act.put, List.setIfInBounds_toArray, List.set_cons_zero, List.set_cons_succ]
  rfl
 refine one_ (i := 10) (N := none) #[true, true, true, true, true, true, true, true, true, true, true, false] rfl rfl (one_of HT_.out (by kernel_rfl)) (by decide) (fun K hK => ?_)
 have hs59 : w58.cell? ⟨gb185, 0, none⟩ = some (.bool false) := b7_ BK185.out 0 rfl
 have hfs59 := blk_frozen BK185.out 0
 have hns59_0 := NB147_185.out
 have hns59_1 := NB148_185.out
 have hns59_2 := NB167_185.out
 have hns59_3 := NB168_185.out
 have hns59_5 := NB186_185.out
 have hms59_0 := NB185_147.out
 have hms59_1 := NB185_148.out
 have hms59_2 := NB185_167.out
 have hms59_3 := NB185_168.out
 have hms59_5 := NB185_186.out
 have hs60 : w58.cell? ⟨gb185, 1, none⟩ = some (.int .i64 0) := b7_ BK185.out 1 rfl
 have hfs60 := blk_frozen BK185.out 1
 have hns60_0 := NB147_185.out
 have hns60_1 := NB148_185.out
 have hns60_2 := NB167_185.out
 have hns60_3 := NB168_185.out
 have hns60_5 := NB186_185.out
 have hms60_0 := NB185_147.out
 have hms60_1 := NB185_148.out
 have hms60_2 := NB185_167.out
 have hms60_3 := NB185_168.out
 have hms60_5 := NB185_186.out
 have hs61 : w58.cell? ⟨gb185, 2, none⟩ = some (.int .i64 0) := b7_ BK185.out 2 rfl
 have hfs61 := blk_frozen BK185.out 2
 have hns61_0 := NB147_185.out
 have hns61_1 := NB148_185.out
 have hns61_2 := NB167_185.out
 have hns61_3 := NB168_185.out
 have hns61_5 := NB186_185.out
 have hms61_0 := NB185_147.out
 have hms61_1 := NB185_148.out
 have hms61_2 := NB185_167.out
 have hms61_3 := NB185_168.out
 have hms61_5 := NB185_186.out
 have hs62 : w58.cell? ⟨gb185, 3, none⟩ = some (.string (⟨#[]⟩ : ByteArray)) := b7_ BK185.out 3 rfl
 have hfs62 := blk_frozen BK185.out 3
 have hns62_0 := NB147_185.out
 have hns62_1 := NB148_185.out
 have hns62_2 := NB167_185.out
 have hns62_3 := NB168_185.out
 have hns62_5 := NB186_185.out
 have hms62_0 := NB185_147.out
 have hms62_1 := NB185_148.out
 have hms62_2 := NB185_167.out
 have hms62_3 := NB185_168.out
 have hms62_5 := NB185_186.out
 refine skip_ (w1 := ?_) (by rfl) rfl ?_ ?_
 rotate_left
 ·
  go_simp
  rfl
 refine hK.out _ _ ⟨((cell_far (p := ⟨gb185, _, none⟩) NB147_185.out _).trans (((cell_far (p := ⟨gb185, _, none⟩) NB147_185.out _).trans (((cell_far (p := ⟨gb185, _, none⟩) NB147_185.out _).trans (((cell_far (p := ⟨gb185, _, none⟩) NB147_185.out _).trans (hHeld.1)))))))), ((cell_far (p := ⟨gb185, _, none⟩) NB147_185.out _).trans (((cell_far (p := ⟨gb185, _, none⟩) NB147_185.out _).trans (((cell_far (p := ⟨gb185, _, none⟩) NB147_185.out _).trans (((cell_far (p := ⟨gb185, _, none⟩) NB147_185.out _).trans (hHeld.2.1)))))))), ((cell_far (p := ⟨gb185, _, none⟩) NB147_185.out _).trans (((cell_far (p := ⟨gb185, _, none⟩) NB147_185.out _).trans (((cell_far (p := ⟨gb185, _, none⟩) NB147_185.out _).trans (((cell_far (p := ⟨gb185, _, none⟩) NB147_185.out _).trans (hHeld.2.2.1)))))))), ((cell_far (p := ⟨gb185, _, none⟩) NB147_185.out _).trans (((cell_far (p := ⟨gb185, _, none⟩) NB147_185.out _).trans (((cell_far (p := ⟨gb185, _, none⟩) NB147_185.out _).trans (((cell_far (p := ⟨gb185, _, none⟩) NB147_185.out _).trans (hHeld.2.2.2.1)))))))), ((cell_far (p := ⟨gb185, _, none⟩) NB148_185.out _).trans (((cell_far (p := ⟨gb185, _, none⟩) NB148_185.out _).trans (((cell_far (p := ⟨gb185, _, none⟩) NB148_185.out _).trans (((cell_far (p := ⟨gb185, _, none⟩) NB148_185.out _).trans (hHeld.2.2.2.2.1)))))))), ((cell_far (p := ⟨gb185, _, none⟩) NB148_185.out _).trans (((cell_far (p := ⟨gb185, _, none⟩) NB148_185.out _).trans (((cell_far (p := ⟨gb185, _, none⟩) NB148_185.out _).trans (((cell_far (p := ⟨gb185, _, none⟩) NB148_185.out _).trans (hHeld.2.2.2.2.2.1)))))))), ((cell_far (p := ⟨gb185, _, none⟩) NB148_185.out _).trans (((cell_far (p := ⟨gb185, _, none⟩) NB148_185.out _).trans (((cell_far (p := ⟨gb185, _, none⟩) NB148_185.out _).trans (((cell_far (p := ⟨gb185, _, none⟩) NB148_185.out _).trans (hHeld.2.2.2.2.2.2.1)))))))), ((cell_far (p := ⟨gb185, _, none⟩) NB148_185.out _).trans (((cell_far (p := ⟨gb185, _, none⟩) NB148_185.out _).trans (((cell_far (p := ⟨gb185, _, none⟩) NB148_185.out _).trans (((cell_far (p := ⟨gb185, _, none⟩) NB148_185.out _).trans (hHeld.2.2.2.2.2.2.2))))))))⟩ (fun hHeld => ?_)
 clear hK K
 refine one_ (i := 11) (N := none) #[true, true, true, true, true, true, true, true, true, true, true, true] rfl rfl (one_of HT_.out (by kernel_rfl)) (by decide) (fun K hK => ?_)
 have hs63 : w58.cell? ⟨gb186, 0, none⟩ = some (.bool false) := b7_ BK186.out 0 rfl
 have hfs63 := blk_frozen BK186.out 0
 have hns63_0 := NB147_186.out
 have hns63_1 := NB148_186.out
 have hns63_2 := NB167_186.out
 have hns63_3 := NB168_186.out
 have hns63_4 := NB185_186.out
 have hms63_0 := NB186_147.out
 have hms63_1 := NB186_148.out
 have hms63_2 := NB186_167.out
 have hms63_3 := NB186_168.out
 have hms63_4 := NB186_185.out
 have hs64 : w58.cell? ⟨gb186, 1, none⟩ = some (.int .i64 0) := b7_ BK186.out 1 rfl
 have hfs64 := blk_frozen BK186.out 1
 have hns64_0 := NB147_186.out
 have hns64_1 := NB148_186.out
 have hns64_2 := NB167_186.out
 have hns64_3 := NB168_186.out
 have hns64_4 := NB185_186.out
 have hms64_0 := NB186_147.out
 have hms64_1 := NB186_148.out
 have hms64_2 := NB186_167.out
 have hms64_3 := NB186_168.out
 have hms64_4 := NB186_185.out
 have hs65 : w58.cell? ⟨gb186, 2, none⟩ = some (.int .i64 0) := b7_ BK186.out 2 rfl
 have hfs65 := blk_frozen BK186.out 2
 have hns65_0 := NB147_186.out
 have hns65_1 := NB148_186.out
 have hns65_2 := NB167_186.out
 have hns65_3 := NB168_186.out
 have hns65_4 := NB185_186.out
 have hms65_0 := NB186_147.out
 have hms65_1 := NB186_148.out
 have hms65_2 := NB186_167.out
 have hms65_3 := NB186_168.out
 have hms65_4 := NB186_185.out
 have hs66 : w58.cell? ⟨gb186, 3, none⟩ = some (.string (⟨#[]⟩ : ByteArray)) := b7_ BK186.out 3 rfl
 have hfs66 := blk_frozen BK186.out 3
 have hns66_0 := NB147_186.out
 have hns66_1 := NB148_186.out
 have hns66_2 := NB167_186.out
 have hns66_3 := NB168_186.out
 have hns66_4 := NB185_186.out
 have hms66_0 := NB186_147.out
 have hms66_1 := NB186_148.out
 have hms66_2 := NB186_167.out
 have hms66_3 := NB186_168.out
 have hms66_4 := NB186_185.out
 refine skip_ (w1 := ?_) (by rfl) rfl ?_ ?_
 rotate_left
 ·
  go_simp
  rfl
 refine hK.out _ _ ⟨((cell_far (p := ⟨gb186, _, none⟩) NB147_186.out _).trans (((cell_far (p := ⟨gb186, _, none⟩) NB147_186.out _).trans (((cell_far (p := ⟨gb186, _, none⟩) NB147_186.out _).trans (((cell_far (p := ⟨gb186, _, none⟩) NB147_186.out _).trans (hHeld.1)))))))), ((cell_far (p := ⟨gb186, _, none⟩) NB147_186.out _).trans (((cell_far (p := ⟨gb186, _, none⟩) NB147_186.out _).trans (((cell_far (p := ⟨gb186, _, none⟩) NB147_186.out _).trans (((cell_far (p := ⟨gb186, _, none⟩) NB147_186.out _).trans (hHeld.2.1)))))))), ((cell_far (p := ⟨gb186, _, none⟩) NB147_186.out _).trans (((cell_far (p := ⟨gb186, _, none⟩) NB147_186.out _).trans (((cell_far (p := ⟨gb186, _, none⟩) NB147_186.out _).trans (((cell_far (p := ⟨gb186, _, none⟩) NB147_186.out _).trans (hHeld.2.2.1)))))))), ((cell_far (p := ⟨gb186, _, none⟩) NB147_186.out _).trans (((cell_far (p := ⟨gb186, _, none⟩) NB147_186.out _).trans (((cell_far (p := ⟨gb186, _, none⟩) NB147_186.out _).trans (((cell_far (p := ⟨gb186, _, none⟩) NB147_186.out _).trans (hHeld.2.2.2.1)))))))), ((cell_far (p := ⟨gb186, _, none⟩) NB148_186.out _).trans (((cell_far (p := ⟨gb186, _, none⟩) NB148_186.out _).trans (((cell_far (p := ⟨gb186, _, none⟩) NB148_186.out _).trans (((cell_far (p := ⟨gb186, _, none⟩) NB148_186.out _).trans (hHeld.2.2.2.2.1)))))))), ((cell_far (p := ⟨gb186, _, none⟩) NB148_186.out _).trans (((cell_far (p := ⟨gb186, _, none⟩) NB148_186.out _).trans (((cell_far (p := ⟨gb186, _, none⟩) NB148_186.out _).trans (((cell_far (p := ⟨gb186, _, none⟩) NB148_186.out _).trans (hHeld.2.2.2.2.2.1)))))))), ((cell_far (p := ⟨gb186, _, none⟩) NB148_186.out _).trans (((cell_far (p := ⟨gb186, _, none⟩) NB148_186.out _).trans (((cell_far (p := ⟨gb186, _, none⟩) NB148_186.out _).trans (((cell_far (p := ⟨gb186, _, none⟩) NB148_186.out _).trans (hHeld.2.2.2.2.2.2.1)))))))), ((cell_far (p := ⟨gb186, _, none⟩) NB148_186.out _).trans (((cell_far (p := ⟨gb186, _, none⟩) NB148_186.out _).trans (((cell_far (p := ⟨gb186, _, none⟩) NB148_186.out _).trans (((cell_far (p := ⟨gb186, _, none⟩) NB148_186.out _).trans (hHeld.2.2.2.2.2.2.2))))))))⟩ (fun hHeld => ?_)
 clear hK K
 refine done_ (done_of HT_.out (by kernel_rfl)) ?_
 have hnb67 := NB185_147.out
 have hnc67 := NB147_185.out
 have hnb68 := NB185_148.out
 have hnc68 := NB148_185.out
 have hnb69 := NB185_167.out
 have hnc69 := NB167_185.out
 have hnb70 := NB185_168.out
 have hnc70 := NB168_185.out
 have hnb71 := NB185_186.out
 have hnc71 := NB186_185.out
 have hcz72_0 : w58.cell? ⟨gb185, 0, none⟩ = some (.bool false) := b7_ BK185.out 0 rfl
 have hcz72_1 : w58.cell? ⟨gb185, 1, none⟩ = some (.int .i64 0) := b7_ BK185.out 1 rfl
 have hcz72_2 : w58.cell? ⟨gb185, 2, none⟩ = some (.int .i64 0) := b7_ BK185.out 2 rfl
 have hcz72_3 : w58.cell? ⟨gb185, 3, none⟩ = some (.string (⟨#[]⟩ : ByteArray)) := b7_ BK185.out 3 rfl
 have hfz72_0 := blk_frozen BK185.out 0
 have hfz72_1 := blk_frozen BK185.out 1
 have hfz72_2 := blk_frozen BK185.out 2
 have hfz72_3 := blk_frozen BK185.out 3
 have hnb73 := NB167_147.out
 have hnc73 := NB147_167.out
 have hnb74 := NB167_148.out
 have hnc74 := NB148_167.out
 have hnb75 := NB167_168.out
 have hnc75 := NB168_167.out
 have hnb76 := NB167_186.out
 have hnc76 := NB186_167.out
 have hcz77_0 : w58.cell? ⟨gb167, 0, none⟩ = some (.bool t159) := b7_ BK167.out 0 rfl
 have hcz77_1 : w58.cell? ⟨gb167, 1, none⟩ = some (.int .i64 t160) := b7_ BK167.out 1 rfl
 have hcz77_2 : w58.cell? ⟨gb167, 2, none⟩ = some (.int .i64 t161) := b7_ BK167.out 2 rfl
 have hcz77_3 : w58.cell? ⟨gb167, 3, none⟩ = some (.string t162) := b7_ BK167.out 3 rfl
 have hfz77_0 := blk_frozen BK167.out 0
 have hfz77_1 := blk_frozen BK167.out 1
 have hfz77_2 := blk_frozen BK167.out 2
 have hfz77_3 := blk_frozen BK167.out 3
 try go_wp2_with (first | ((with_reducible refine gate_callee (f := 35) rfl ?_); refine goesL_ (some 38) rfl rfl Try.func35 (by kernel_rfl) rfl #[.agg #[.bool t177, .int .i64 t178, .int .i64 t179, .string t180], .agg #[.bool t159, .int .i64 t160, .int .i64 t161, .string t162]] rfl (by (try simp only [List.map_toArray, List.map_cons, List.map_nil]); first | done | rfl | (simp only [List.length_drop, List.length_take]; rfl)) ?_; (with_reducible refine (laws_eqRec.calls t177 t178 t179 t180 t159 t160 t161 t162 true _ A25.out).mono ?_); rintro e w78 ⟨rfl, hb⟩; refine ⟨_, rfl, ?_⟩; have n0_ := Aside0.mk (blk_below (g := gb147) (o := .cells #[.bool a0_0, .int .i64 a0_1, .int .i64 a0_2, .string a0_3] 23 (0, 0)) (by (with_reducible repeat (first | refine blk_drewN ?_ _ | refine blk_drew ?_ | refine blk_alloc ?_ _)); refine blk_far ?_ NB147_186.out _; (with_reducible repeat (first | refine blk_drewN ?_ _ | refine blk_drew ?_ | refine blk_alloc ?_ _)); refine blk_far ?_ NB147_186.out _; (with_reducible repeat (first | refine blk_drewN ?_ _ | refine blk_drew ?_ | refine blk_alloc ?_ _)); refine blk_far ?_ NB147_186.out _; (with_reducible repeat (first | refine blk_drewN ?_ _ | refine blk_drew ?_ | refine blk_alloc ?_ _)); refine blk_far ?_ NB147_186.out _; (with_reducible repeat (first | refine blk_drewN ?_ _ | refine blk_drew ?_ | refine blk_alloc ?_ _)); refine blk_far ?_ NB147_185.out _; (with_reducible repeat (first | refine blk_drewN ?_ _ | refine blk_drew ?_ | refine blk_alloc ?_ _)); refine blk_far ?_ NB147_185.out _; (with_reducible repeat (first | refine blk_drewN ?_ _ | refine blk_drew ?_ | refine blk_alloc ?_ _)); refine blk_far ?_ NB147_185.out _; (with_reducible repeat (first | refine blk_drewN ?_ _ | refine blk_drew ?_ | refine blk_alloc ?_ _)); refine blk_far ?_ NB147_185.out _; (with_reducible repeat (first | refine blk_drewN ?_ _ | refine blk_drew ?_ | refine blk_alloc ?_ _)); exact BK147.out) hb); have n1_ := Aside0.mk (blk_below (g := gb148) (o := .cells #[.bool a1_0, .int .i64 a1_1, .int .i64 a1_2, .string a1_3] 23 (0, 0)) (by (with_reducible repeat (first | refine blk_drewN ?_ _ | refine blk_drew ?_ | refine blk_alloc ?_ _)); refine blk_far ?_ NB148_186.out _; (with_reducible repeat (first | refine blk_drewN ?_ _ | refine blk_drew ?_ | refine blk_alloc ?_ _)); refine blk_far ?_ NB148_186.out _; (with_reducible repeat (first | refine blk_drewN ?_ _ | refine blk_drew ?_ | refine blk_alloc ?_ _)); refine blk_far ?_ NB148_186.out _; (with_reducible repeat (first | refine blk_drewN ?_ _ | refine blk_drew ?_ | refine blk_alloc ?_ _)); refine blk_far ?_ NB148_186.out _; (with_reducible repeat (first | refine blk_drewN ?_ _ | refine blk_drew ?_ | refine blk_alloc ?_ _)); refine blk_far ?_ NB148_185.out _; (with_reducible repeat (first | refine blk_drewN ?_ _ | refine blk_drew ?_ | refine blk_alloc ?_ _)); refine blk_far ?_ NB148_185.out _; (with_reducible repeat (first | refine blk_drewN ?_ _ | refine blk_drew ?_ | refine blk_alloc ?_ _)); refine blk_far ?_ NB148_185.out _; (with_reducible repeat (first | refine blk_drewN ?_ _ | refine blk_drew ?_ | refine blk_alloc ?_ _)); refine blk_far ?_ NB148_185.out _; (with_reducible repeat (first | refine blk_drewN ?_ _ | refine blk_drew ?_ | refine blk_alloc ?_ _)); exact BK148.out) hb); have n2_ := Aside0.mk (blk_below (g := gb167) (o := .cells #[.bool t159, .int .i64 t160, .int .i64 t161, .string t162] 26 (0, 0)) (by (with_reducible repeat (first | refine blk_drewN ?_ _ | refine blk_drew ?_ | refine blk_alloc ?_ _)); refine blk_far ?_ NB167_186.out _; (with_reducible repeat (first | refine blk_drewN ?_ _ | refine blk_drew ?_ | refine blk_alloc ?_ _)); refine blk_far ?_ NB167_186.out _; (with_reducible repeat (first | refine blk_drewN ?_ _ | refine blk_drew ?_ | refine blk_alloc ?_ _)); refine blk_far ?_ NB167_186.out _; (with_reducible repeat (first | refine blk_drewN ?_ _ | refine blk_drew ?_ | refine blk_alloc ?_ _)); refine blk_far ?_ NB167_186.out _; (with_reducible repeat (first | refine blk_drewN ?_ _ | refine blk_drew ?_ | refine blk_alloc ?_ _)); refine blk_far ?_ NB167_185.out _; (with_reducible repeat (first | refine blk_drewN ?_ _ | refine blk_drew ?_ | refine blk_alloc ?_ _)); refine blk_far ?_ NB167_185.out _; (with_reducible repeat (first | refine blk_drewN ?_ _ | refine blk_drew ?_ | refine blk_alloc ?_ _)); refine blk_far ?_ NB167_185.out _; (with_reducible repeat (first | refine blk_drewN ?_ _ | refine blk_drew ?_ | refine blk_alloc ?_ _)); refine blk_far ?_ NB167_185.out _; (with_reducible repeat (first | refine blk_drewN ?_ _ | refine blk_drew ?_ | refine blk_alloc ?_ _)); exact BK167.out) hb); have n3_ := Aside0.mk (blk_below (g := gb168) (o := .cells #[.bool t163, .int .i64 t164, .int .i64 t165, .string t166] 26 (0, 0)) (by (with_reducible repeat (first | refine blk_drewN ?_ _ | refine blk_drew ?_ | refine blk_alloc ?_ _)); refine blk_far ?_ NB168_186.out _; (with_reducible repeat (first | refine blk_drewN ?_ _ | refine blk_drew ?_ | refine blk_alloc ?_ _)); refine blk_far ?_ NB168_186.out _; (with_reducible repeat (first | refine blk_drewN ?_ _ | refine blk_drew ?_ | refine blk_alloc ?_ _)); refine blk_far ?_ NB168_186.out _; (with_reducible repeat (first | refine blk_drewN ?_ _ | refine blk_drew ?_ | refine blk_alloc ?_ _)); refine blk_far ?_ NB168_186.out _; (with_reducible repeat (first | refine blk_drewN ?_ _ | refine blk_drew ?_ | refine blk_alloc ?_ _)); refine blk_far ?_ NB168_185.out _; (with_reducible repeat (first | refine blk_drewN ?_ _ | refine blk_drew ?_ | refine blk_alloc ?_ _)); refine blk_far ?_ NB168_185.out _; (with_reducible repeat (first | refine blk_drewN ?_ _ | refine blk_drew ?_ | refine blk_alloc ?_ _)); refine blk_far ?_ NB168_185.out _; (with_reducible repeat (first | refine blk_drewN ?_ _ | refine blk_drew ?_ | refine blk_alloc ?_ _)); refine blk_far ?_ NB168_185.out _; (with_reducible repeat (first | refine blk_drewN ?_ _ | refine blk_drew ?_ | refine blk_alloc ?_ _)); exact BK168.out) hb); have n4_ := Aside0.mk (blk_below (g := gb185) (o := .cells #[.bool t177, .int .i64 t178, .int .i64 t179, .string t180] 26 (0, 0)) (by (with_reducible repeat (first | refine blk_drewN ?_ _ | refine blk_drew ?_ | refine blk_alloc ?_ _)); refine blk_far ?_ NB185_186.out _; (with_reducible repeat (first | refine blk_drewN ?_ _ | refine blk_drew ?_ | refine blk_alloc ?_ _)); refine blk_far ?_ NB185_186.out _; (with_reducible repeat (first | refine blk_drewN ?_ _ | refine blk_drew ?_ | refine blk_alloc ?_ _)); refine blk_far ?_ NB185_186.out _; (with_reducible repeat (first | refine blk_drewN ?_ _ | refine blk_drew ?_ | refine blk_alloc ?_ _)); refine blk_far ?_ NB185_186.out _; (with_reducible repeat (first | refine blk_drewN ?_ _ | refine blk_drew ?_ | refine blk_alloc ?_ _)); refine blk_put (cs := #[.bool t177, .int .i64 t178, .int .i64 t179, .string (⟨#[]⟩ : ByteArray)]) ?_ 3 _ rfl; (with_reducible repeat (first | refine blk_drewN ?_ _ | refine blk_drew ?_ | refine blk_alloc ?_ _)); refine blk_put (cs := #[.bool t177, .int .i64 t178, .int .i64 0, .string (⟨#[]⟩ : ByteArray)]) ?_ 2 _ rfl; (with_reducible repeat (first | refine blk_drewN ?_ _ | refine blk_drew ?_ | refine blk_alloc ?_ _)); refine blk_put (cs := #[.bool t177, .int .i64 0, .int .i64 0, .string (⟨#[]⟩ : ByteArray)]) ?_ 1 _ rfl; (with_reducible repeat (first | refine blk_drewN ?_ _ | refine blk_drew ?_ | refine blk_alloc ?_ _)); refine blk_put (cs := #[.bool false, .int .i64 0, .int .i64 0, .string (⟨#[]⟩ : ByteArray)]) ?_ 0 _ rfl; (with_reducible repeat (first | refine blk_drewN ?_ _ | refine blk_drew ?_ | refine blk_alloc ?_ _)); exact BK185.out) hb); have n5_ := Aside0.mk (blk_below (g := gb186) (o := .cells #[.bool t181, .int .i64 t182, .int .i64 t183, .string t184] 26 (0, 0)) (by (with_reducible repeat (first | refine blk_drewN ?_ _ | refine blk_drew ?_ | refine blk_alloc ?_ _)); refine blk_put (cs := #[.bool t181, .int .i64 t182, .int .i64 t183, .string (⟨#[]⟩ : ByteArray)]) ?_ 3 _ rfl; (with_reducible repeat (first | refine blk_drewN ?_ _ | refine blk_drew ?_ | refine blk_alloc ?_ _)); refine blk_put (cs := #[.bool t181, .int .i64 t182, .int .i64 0, .string (⟨#[]⟩ : ByteArray)]) ?_ 2 _ rfl; (with_reducible repeat (first | refine blk_drewN ?_ _ | refine blk_drew ?_ | refine blk_alloc ?_ _)); refine blk_put (cs := #[.bool t181, .int .i64 0, .int .i64 0, .string (⟨#[]⟩ : ByteArray)]) ?_ 1 _ rfl; (with_reducible repeat (first | refine blk_drewN ?_ _ | refine blk_drew ?_ | refine blk_alloc ?_ _)); refine blk_put (cs := #[.bool false, .int .i64 0, .int .i64 0, .string (⟨#[]⟩ : ByteArray)]) ?_ 0 _ rfl; (with_reducible repeat (first | refine blk_drewN ?_ _ | refine blk_drew ?_ | refine blk_alloc ?_ _)); refine blk_far ?_ NB186_185.out _; (with_reducible repeat (first | refine blk_drewN ?_ _ | refine blk_drew ?_ | refine blk_alloc ?_ _)); refine blk_far ?_ NB186_185.out _; (with_reducible repeat (first | refine blk_drewN ?_ _ | refine blk_drew ?_ | refine blk_alloc ?_ _)); refine blk_far ?_ NB186_185.out _; (with_reducible repeat (first | refine blk_drewN ?_ _ | refine blk_drew ?_ | refine blk_alloc ?_ _)); refine blk_far ?_ NB186_185.out _; (with_reducible repeat (first | refine blk_drewN ?_ _ | refine blk_drew ?_ | refine blk_alloc ?_ _)); exact BK186.out) hb); have n6_ := Aside0.mk (below_step (by repeat (first | (with_reducible first | exact HB.out | apply below_alloc | apply pw_below_drewN | apply below_drew1 | refine below_set ?_ GE147.out | refine below_set ?_ GE148.out | refine below_set ?_ GE167.out | refine below_set ?_ GE168.out | refine below_set ?_ GE185.out | refine below_set ?_ GE186.out) | exact HB.out)) hb); clear BK147; clear BK148; clear BK167; clear BK168; clear BK185; clear BK186; clear HB; have BK147 := n0_; have BK148 := n1_; have BK167 := n2_; have BK168 := n3_; have BK185 := n4_; have BK186 := n5_; have HB := n6_; clear n0_ n1_ n2_ n3_ n4_ n5_ n6_; (try clear hb); (try clear hb2); (try clear hk); (try clear hi); have hnb79 := NB186_147.out; have hnc79 := NB147_186.out; have hnb80 := NB186_148.out; have hnc80 := NB148_186.out; have hnb81 := NB186_168.out; have hnc81 := NB168_186.out; have hcz82_0 : w78.cell? ⟨gb186, 0, none⟩ = some (.bool t181) := b7_ BK186.out 0 rfl; have hcz82_1 : w78.cell? ⟨gb186, 1, none⟩ = some (.int .i64 t182) := b7_ BK186.out 1 rfl; have hcz82_2 : w78.cell? ⟨gb186, 2, none⟩ = some (.int .i64 t183) := b7_ BK186.out 2 rfl; have hcz82_3 : w78.cell? ⟨gb186, 3, none⟩ = some (.string t184) := b7_ BK186.out 3 rfl; have hfz82_0 := blk_frozen BK186.out 0; have hfz82_1 := blk_frozen BK186.out 1; have hfz82_2 := blk_frozen BK186.out 2; have hfz82_3 := blk_frozen BK186.out 3; have hnb83 := NB168_147.out; have hnc83 := NB147_168.out; have hnb84 := NB168_148.out; have hnc84 := NB148_168.out; have hcz85_0 : w78.cell? ⟨gb168, 0, none⟩ = some (.bool t163) := b7_ BK168.out 0 rfl; have hcz85_1 : w78.cell? ⟨gb168, 1, none⟩ = some (.int .i64 t164) := b7_ BK168.out 1 rfl; have hcz85_2 : w78.cell? ⟨gb168, 2, none⟩ = some (.int .i64 t165) := b7_ BK168.out 2 rfl; have hcz85_3 : w78.cell? ⟨gb168, 3, none⟩ = some (.string t166) := b7_ BK168.out 3 rfl; have hfz85_0 := blk_frozen BK168.out 0; have hfz85_1 := blk_frozen BK168.out 1; have hfz85_2 := blk_frozen BK168.out 2; have hfz85_3 := blk_frozen BK168.out 3) | (go_at_call 35; (with_reducible refine (laws_eqRec.calls t181 t182 t183 t184 t163 t164 t165 t166 true _ A27.out).mono ?_); rintro e w86 ⟨rfl, hb⟩; have n0_ := Aside0.mk (blk_below (g := gb147) (o := .cells #[.bool a0_0, .int .i64 a0_1, .int .i64 a0_2, .string a0_3] 23 (0, 0)) (by (with_reducible repeat (first | refine blk_drewN ?_ _ | refine blk_drew ?_ | refine blk_alloc ?_ _)); exact BK147.out) hb); have n1_ := Aside0.mk (blk_below (g := gb148) (o := .cells #[.bool a1_0, .int .i64 a1_1, .int .i64 a1_2, .string a1_3] 23 (0, 0)) (by (with_reducible repeat (first | refine blk_drewN ?_ _ | refine blk_drew ?_ | refine blk_alloc ?_ _)); exact BK148.out) hb); have n2_ := Aside0.mk (blk_below (g := gb167) (o := .cells #[.bool t159, .int .i64 t160, .int .i64 t161, .string t162] 26 (0, 0)) (by (with_reducible repeat (first | refine blk_drewN ?_ _ | refine blk_drew ?_ | refine blk_alloc ?_ _)); exact BK167.out) hb); have n3_ := Aside0.mk (blk_below (g := gb168) (o := .cells #[.bool t163, .int .i64 t164, .int .i64 t165, .string t166] 26 (0, 0)) (by (with_reducible repeat (first | refine blk_drewN ?_ _ | refine blk_drew ?_ | refine blk_alloc ?_ _)); exact BK168.out) hb); have n4_ := Aside0.mk (blk_below (g := gb185) (o := .cells #[.bool t177, .int .i64 t178, .int .i64 t179, .string t180] 26 (0, 0)) (by (with_reducible repeat (first | refine blk_drewN ?_ _ | refine blk_drew ?_ | refine blk_alloc ?_ _)); exact BK185.out) hb); have n5_ := Aside0.mk (blk_below (g := gb186) (o := .cells #[.bool t181, .int .i64 t182, .int .i64 t183, .string t184] 26 (0, 0)) (by (with_reducible repeat (first | refine blk_drewN ?_ _ | refine blk_drew ?_ | refine blk_alloc ?_ _)); exact BK186.out) hb); have n6_ := Aside0.mk (below_step (by repeat (first | (with_reducible first | exact HB.out | apply below_alloc | apply pw_below_drewN | apply below_drew1 | refine below_set ?_ GE147.out | refine below_set ?_ GE148.out | refine below_set ?_ GE167.out | refine below_set ?_ GE168.out | refine below_set ?_ GE185.out | refine below_set ?_ GE186.out) | exact HB.out)) hb); clear BK147; clear BK148; clear BK167; clear BK168; clear BK185; clear BK186; clear HB; have BK147 := n0_; have BK148 := n1_; have BK167 := n2_; have BK168 := n3_; have BK185 := n4_; have BK186 := n5_; have HB := n6_; clear n0_ n1_ n2_ n3_ n4_ n5_ n6_; (try clear hb); (try clear hb2); (try clear hk); (try clear hi)))
 go_ret
 exact ⟨by first | rfl | (simp [errW_none, errW_some] <;> rfl) | (simp [*, errW_none, errW_some] <;> rfl), by repeat (first | (with_reducible first | exact HB.out | apply below_alloc | apply pw_below_drewN | apply below_drew1 | refine below_set ?_ GE147.out | refine below_set ?_ GE148.out | refine below_set ?_ GE167.out | refine below_set ?_ GE168.out | refine below_set ?_ GE185.out | refine below_set ?_ GE186.out) | exact HB.out)⟩

end Go.Proofs.Ytmhikpfaoacgpaa.PFnExactRecPair

-- Laid by a program of this session: what the print of the kit writes, and contracts of the session where the print takes no function. Lean checks it.
import Derived.Test.YtljmhhadclgegaaPFnExactBatchCappedx0
import Derived.Test.YtljmhhadclgegaaPFnExactBatchCappedx1
import Derived.Test.YtljmhhadclgegaaPFnExactBatchCappedx6
import Derived.Test.YtljmhhadclgegaaPFnExactBatchCappedx10
import Derived.Test.YtljmhhadclgegaaPFnExactBatchCappedx11
namespace Go.Proofs.Ytljmhhadclgegaa.PFnExactBatchCapped
open Go.RowKit Go.Proofs.YtljmhhadclgegaaW.PrintWords Go.Proofs.YtljmhhadclgegaaW.PrintLast Go.Proofs.YtljmhhadclgegaaW.PrintMore
attribute [local go_sem] max2_int min2_int max_two min_two max_three min_three max_four min_four   -- for this text's walks alone
set_option linter.unusedVariables false
set_option linter.unusedSimpArgs false

/-! ### laws_FnExactBatchCapped: function 7 -/
def laws_FnExactBatchCapped.j0 : Nat → ByteArray → List Int → List Int → Bool → Int → List Int → List Int → Option (Bool)
  | 0, _, _, _, _, _, _, _ => none
  | k + 1, x0, x6, x8, x49, x348000, x348001, x348002 => if x49 = true then (some false) else ((laws_markIntS.f k x8 1).bind fun bt383 => ((laws_heldIntS.f k bt383.2 1).bind fun t385 => (if t385 < 0 then (some false) else (if t385 = bt383.1 then ((laws_toPlanes.f k x348000 x348001 x348002).bind fun bt386 => ((impl_BatchCapped.f k x0 bt386.1 bt386.2.1 bt386.2.2).bind fun t393 => ((laws_eqIntS.f k t393 x6).bind fun t396 => (if t396 = true then ((laws_heldIntS.f k bt383.2 1).bind fun t397 => (if t397 < 0 then (some false) else (if t397 = bt383.1 then (some true) else (some false)))) else (some false))))) else (some false)))))
def laws_FnExactBatchCapped.f (k : Nat) (a0 : ByteArray) (a1_0 : Int) (l1_1 : List Int) (l1_2 : List Int) : Option (Bool) := if (a0.size : Int) > 1048576 then (some true) else ((laws_szPlanes.f a1_0 l1_1 l1_2 1048576).bind fun t348 => (if t348 < 0 then (some true) else ((laws_toPlanes.f k a1_0 l1_1 l1_2).bind fun bt349 => ((spec_BatchCapped.f k a0 bt349.1 bt349.2.1 bt349.2.2).bind fun t356 => ((laws_toPlanes.f k a1_0 l1_1 l1_2).bind fun bt359 => ((impl_BatchCapped.f k a0 bt359.1 bt359.2.1 bt359.2.2).bind fun t367 => ((laws_eqIntS.f k t367 t356).bind fun t370 => (if t370 = true then ((laws_toPlanes.f k a1_0 l1_1 l1_2).bind fun bt371 => ((laws_eqPlanes.f k bt359.1 bt359.2.1 bt359.2.2 bt371.1 bt371.2.1 bt371.2.2).bind fun t378 => (if t378 = true then ((laws_markPlanes.f k bt359.1 bt359.2.1 bt359.2.2 1).bind fun bt379 => (if bt379.1 < 0 then (laws_FnExactBatchCapped.j0 k a0 t356 t367 true a1_0 l1_1 l1_2) else ((laws_eqIntS.f k t367 t356).bind fun t382 => (laws_FnExactBatchCapped.j0 k a0 t356 t367 (!t382) a1_0 l1_1 l1_2)))) else (some false)))) else (some false)))))))))
theorem laws_FnExactBatchCapped.mono_l : ∀ k, (∀ y0 y1 y2 y3 y4 y5 y6, LeO (laws_FnExactBatchCapped.j0 k y0 y1 y2 y3 y4 y5 y6) (laws_FnExactBatchCapped.j0 (k + 1) y0 y1 y2 y3 y4 y5 y6))
  | 0 => fun _ _ _ _ _ _ _ r h => by simp [laws_FnExactBatchCapped.j0] at h
  | k + 1 => by
    have ih0 := laws_FnExactBatchCapped.mono_l k
    · intro y0 y1 y2 y3 y4 y5 y6
      unfold laws_FnExactBatchCapped.j0
      repeat' first
      | (with_reducible exact ih0 _ _ _ _ _ _ _)
      | (with_reducible exact impl_BatchCapped.mono _ _ _ _ _)
      | (with_reducible exact laws_eqIntS.mono _ _ _)
      | (with_reducible exact laws_eqPlanes.mono _ _ _ _ _ _ _)
      | (with_reducible exact laws_heldIntS.mono _ _ _)
      | (with_reducible exact laws_markIntS.mono _ _ _)
      | (with_reducible exact laws_markPlanes.mono _ _ _ _ _)
      | (with_reducible exact laws_toPlanes.mono _ _ _ _)
      | (with_reducible exact spec_BatchCapped.mono _ _ _ _ _)
      | (with_reducible exact LeO.refl _)
      | (with_reducible exact LeO.none _)
      | (with_reducible refine LeO.ite ?_ ?_)
      | (with_reducible refine LeO.bind ?_ (fun _ => ?_))
      | exact ih0 _ _ _ _ _ _ _
      | exact impl_BatchCapped.mono _ _ _ _ _
      | exact laws_eqIntS.mono _ _ _
      | exact laws_eqPlanes.mono _ _ _ _ _ _ _
      | exact laws_heldIntS.mono _ _ _
      | exact laws_markIntS.mono _ _ _
      | exact laws_markPlanes.mono _ _ _ _ _
      | exact laws_toPlanes.mono _ _ _ _
      | exact spec_BatchCapped.mono _ _ _ _ _
      | exact LeO.none _
      | refine LeO.ite ?_ ?_
      | refine LeO.bind ?_ (fun _ => ?_)
theorem laws_FnExactBatchCapped.mono : ∀ a0 a1 a2 a3 k, LeO (laws_FnExactBatchCapped.f k a0 a1 a2 a3) (laws_FnExactBatchCapped.f (k + 1) a0 a1 a2 a3) := by
  intro a0 a1 a2 a3 k
  have ih0 := laws_FnExactBatchCapped.mono_l k
  unfold laws_FnExactBatchCapped.f
  repeat' first
      | (with_reducible exact ih0 _ _ _ _ _ _ _)
      | (with_reducible exact impl_BatchCapped.mono _ _ _ _ _)
      | (with_reducible exact laws_eqIntS.mono _ _ _)
      | (with_reducible exact laws_eqPlanes.mono _ _ _ _ _ _ _)
      | (with_reducible exact laws_heldIntS.mono _ _ _)
      | (with_reducible exact laws_markIntS.mono _ _ _)
      | (with_reducible exact laws_markPlanes.mono _ _ _ _ _)
      | (with_reducible exact laws_toPlanes.mono _ _ _ _)
      | (with_reducible exact spec_BatchCapped.mono _ _ _ _ _)
      | (with_reducible exact LeO.refl _)
      | (with_reducible exact LeO.none _)
      | (with_reducible refine LeO.ite ?_ ?_)
      | (with_reducible refine LeO.bind ?_ (fun _ => ?_))
      | exact ih0 _ _ _ _ _ _ _
      | exact impl_BatchCapped.mono _ _ _ _ _
      | exact laws_eqIntS.mono _ _ _
      | exact laws_eqPlanes.mono _ _ _ _ _ _ _
      | exact laws_heldIntS.mono _ _ _
      | exact laws_markIntS.mono _ _ _
      | exact laws_markPlanes.mono _ _ _ _ _
      | exact laws_toPlanes.mono _ _ _ _
      | exact spec_BatchCapped.mono _ _ _ _ _
      | exact LeO.none _
      | refine LeO.ite ?_ ?_
      | refine LeO.bind ?_ (fun _ => ?_)
set_option maxHeartbeats 8000000 in
set_option maxRecDepth 100000 in
theorem laws_FnExactBatchCapped.calls (k : Nat) (a0 : ByteArray) (a1_0 : Int) (A1_1 : Option Addr) (c1_1 : Nat) (l1_1 : List Int) (A1_2 : Option Addr) (c1_2 : Nat) (l1_2 : List Int) (r : Bool) (w : World) (hr1_1 : Kd.C (Kd.int .u64) w A1_1 l1_1.length l1_1) (hc1_1 : l1_1.length ≤ c1_1) (hr1_2 : Kd.C (Kd.int .u64) w A1_2 l1_2.length l1_2) (hc1_2 : l1_2.length ≤ c1_2) (h : laws_FnExactBatchCapped.f k a0 a1_0 l1_1 l1_2 = some r) (hT_ : r = true := by rfl) :
    Calls Try.prog 7 #[.string a0, .agg #[.int .i64 a1_0, .slice A1_1 l1_1.length c1_1, .slice A1_2 l1_2.length c1_2]] w fun e w' => e = .returned (.bool r) ∧ Below w.heap.size w w' := by
  have HTRUE_ := Aside0.mk hT_
  clear hT_
  have hu45 := Try.underlying45
  have hu37 := Try.underlying37
  have HR1_1 := Aside0.mk hr1_1
  have HC1_1 := Aside0.mk hc1_1
  clear hr1_1 hc1_1
  have HR1_2 := Aside0.mk hr1_2
  have HC1_2 := Aside0.mk hc1_2
  clear hr1_2 hc1_2
  have HB := Aside0.mk (Below.refl w.heap.size w)
  have H : (if (a0.size : Int) > 1048576 then (some true) else ((laws_szPlanes.f a1_0 l1_1 l1_2 1048576).bind fun t348 => (if t348 < 0 then (some true) else ((laws_toPlanes.f k a1_0 l1_1 l1_2).bind fun bt349 => ((spec_BatchCapped.f k a0 bt349.1 bt349.2.1 bt349.2.2).bind fun t356 => ((laws_toPlanes.f k a1_0 l1_1 l1_2).bind fun bt359 => ((impl_BatchCapped.f k a0 bt359.1 bt359.2.1 bt359.2.2).bind fun t367 => ((laws_eqIntS.f k t367 t356).bind fun t370 => (if t370 = true then ((laws_toPlanes.f k a1_0 l1_1 l1_2).bind fun bt371 => ((laws_eqPlanes.f k bt359.1 bt359.2.1 bt359.2.2 bt371.1 bt371.2.1 bt371.2.2).bind fun t378 => (if t378 = true then ((laws_markPlanes.f k bt359.1 bt359.2.1 bt359.2.2 1).bind fun bt379 => (if bt379.1 < 0 then (laws_FnExactBatchCapped.j0 k a0 t356 t367 true a1_0 l1_1 l1_2) else ((laws_eqIntS.f k t367 t356).bind fun t382 => (laws_FnExactBatchCapped.j0 k a0 t356 t367 (!t382) a1_0 l1_1 l1_2)))) else (some false)))) else (some false)))))))))) = some r := h
  clear h
  by_cases c3 : (a0.size : Int) > 1048576
  · rw [if_pos c3] at H
    have c3b0 : decide (1048576 < (a0.size : Int)) = true := decide_eq_true c3
    have c3b1 : decide (1048576 < a0.size) = true := decide_eq_true (by omega)
    clear c3
    obtain rfl := Option.some.inj H
    go_enter Try.func7, Try.ntmps7
    go_wp2_with (first | ((with_reducible refine gate_dst (N := 3) rfl ?_); refine box_event ?hg (N := 3) ?hd (cs := #[.int .i64 a1_0, .slice A1_1 l1_1.length c1_1, .slice A1_2 l1_2.length c1_2]) (t := 45) ?hr ?_; (case hd => rfl); (case hg => rfl); (case hr => first | (go_simp; done) | (go_simp; rfl)); intro gb347 hg w4 hbox hb; have n0_ := Aside0.mk (below_step (by repeat (first | (with_reducible first | exact HB.out | apply below_alloc | apply pw_below_drewN | apply below_drew1) | exact HB.out)) hb); have n1_ := Aside0.mk (hbox); have n2_ := Aside0.mk ((by rw [hg]; exact (below_size (by repeat (first | (with_reducible first | exact HB.out | apply below_alloc | apply pw_below_drewN | apply below_drew1) | exact HB.out))) : w.heap.size ≤ gb347)); have n3_ := Aside0.mk ((by rw [hg]; exact (below_size (by repeat (first | (with_reducible first | exact HB.out | apply below_alloc | apply pw_below_drewN | apply below_drew1) | exact HB.out))) : w.heap.size ≤ gb347)); clear HB; have HB := n0_; have BK347 := n1_; have GW347 := n2_; have GE347 := n3_; clear n0_ n1_ n2_ n3_; clear hb hbox hg))
    go_ret
    exact ⟨by first | rfl | (simp [errW_none, errW_some] <;> rfl) | (simp [*, errW_none, errW_some] <;> rfl), by repeat (first | (with_reducible first | exact HB.out | apply below_alloc | apply pw_below_drewN | apply below_drew1 | refine below_set ?_ GE347.out) | exact HB.out)⟩
  · rw [if_neg c3] at H
    have c3b0 : decide (1048576 < (a0.size : Int)) = false := decide_eq_false c3
    have c3b1 : decide (1048576 < a0.size) = false := decide_eq_false (by omega)
    clear c3
    replace H := Option.bind_eq_some_iff.mp H
    obtain ⟨t348, A50, H⟩ := H
    replace H : (if t348 < 0 then (some true) else ((laws_toPlanes.f k a1_0 l1_1 l1_2).bind fun bt349 => ((spec_BatchCapped.f k a0 bt349.1 bt349.2.1 bt349.2.2).bind fun t356 => ((laws_toPlanes.f k a1_0 l1_1 l1_2).bind fun bt359 => ((impl_BatchCapped.f k a0 bt359.1 bt359.2.1 bt359.2.2).bind fun t367 => ((laws_eqIntS.f k t367 t356).bind fun t370 => (if t370 = true then ((laws_toPlanes.f k a1_0 l1_1 l1_2).bind fun bt371 => ((laws_eqPlanes.f k bt359.1 bt359.2.1 bt359.2.2 bt371.1 bt371.2.1 bt371.2.2).bind fun t378 => (if t378 = true then ((laws_markPlanes.f k bt359.1 bt359.2.1 bt359.2.2 1).bind fun bt379 => (if bt379.1 < 0 then (laws_FnExactBatchCapped.j0 k a0 t356 t367 true a1_0 l1_1 l1_2) else ((laws_eqIntS.f k t367 t356).bind fun t382 => (laws_FnExactBatchCapped.j0 k a0 t356 t367 (!t382) a1_0 l1_1 l1_2)))) else (some false)))) else (some false)))))))) = some r := H
    have A5 := Aside0.mk A50
    clear A50
    by_cases c6 : t348 < 0
    · rw [if_pos c6] at H
      have c6b0 : decide (t348 < 0) = true := decide_eq_true c6
      clear c6
      obtain rfl := Option.some.inj H
      go_enter Try.func7, Try.ntmps7
      go_wp2_with (first | ((with_reducible refine gate_dst (N := 3) rfl ?_); refine box_event ?hg (N := 3) ?hd (cs := #[.int .i64 a1_0, .slice A1_1 l1_1.length c1_1, .slice A1_2 l1_2.length c1_2]) (t := 45) ?hr ?_; (case hd => rfl); (case hg => rfl); (case hr => first | (go_simp; done) | (go_simp; rfl)); intro gb347 hg w7 hbox hb; have n0_ := Aside0.mk (below_step (by repeat (first | (with_reducible first | exact HB.out | apply below_alloc | apply pw_below_drewN | apply below_drew1) | exact HB.out)) hb); have n1_ := Aside0.mk (hbox); have n2_ := Aside0.mk ((by rw [hg]; exact (below_size (by repeat (first | (with_reducible first | exact HB.out | apply below_alloc | apply pw_below_drewN | apply below_drew1) | exact HB.out))) : w.heap.size ≤ gb347)); have n3_ := Aside0.mk ((by rw [hg]; exact (below_size (by repeat (first | (with_reducible first | exact HB.out | apply below_alloc | apply pw_below_drewN | apply below_drew1) | exact HB.out))) : w.heap.size ≤ gb347)); clear HB; have HB := n0_; have BK347 := n1_; have GW347 := n2_; have GE347 := n3_; clear n0_ n1_ n2_ n3_; clear hb hbox hg; have hcz8_0 : w7.cell? ⟨gb347, 0, none⟩ = some (.int .i64 a1_0) := (blk_cell BK347.out 0).trans rfl; have hcz8_1 : w7.cell? ⟨gb347, 1, none⟩ = some (.slice A1_1 l1_1.length c1_1) := (blk_cell BK347.out 1).trans rfl; have hcz8_2 : w7.cell? ⟨gb347, 2, none⟩ = some (.slice A1_2 l1_2.length c1_2) := (blk_cell BK347.out 2).trans rfl; have hfz8_0 := blk_frozen BK347.out 0; have hfz8_1 := blk_frozen BK347.out 1; have hfz8_2 := blk_frozen BK347.out 2) | ((with_reducible refine gate_callee (f := 26) rfl ?_); refine goesL_ (some 18) rfl rfl Try.func26 (by kernel_rfl) rfl #[.agg #[.int .i64 a1_0, .slice A1_1 l1_1.length c1_1, .slice A1_2 l1_2.length c1_2], .int .i64 1048576] rfl (by (try simp only [List.map_toArray, List.map_cons, List.map_nil]); first | done | rfl | (simp only [List.length_drop, List.length_take]; rfl)) ?_; (with_reducible refine (laws_szPlanes.calls a1_0 _ _ l1_1 _ _ l1_2 1048576 t348 _ ?side1 ?side2 ?side3 ?side4 A5.out).mono ?_); (case side1 => repeat (first | exact (Kd.C_below HR1_1.out HB.out) | (with_reducible refine Kd.C_alloc ?_ _) | (with_reducible refine Kd.C_drewN ?_ _) | (with_reducible refine Kd.C_drew ?_))); (case side2 => exact HC1_1.out); (case side3 => repeat (first | exact (Kd.C_below HR1_2.out HB.out) | (with_reducible refine Kd.C_alloc ?_ _) | (with_reducible refine Kd.C_drewN ?_ _) | (with_reducible refine Kd.C_drew ?_))); (case side4 => exact HC1_2.out); rintro e w9 ⟨rfl, hb⟩; refine ⟨_, rfl, ?_⟩; have n0_ := Aside0.mk (blk_below (g := gb347) (o := .cells #[.int .i64 a1_0, .slice A1_1 l1_1.length c1_1, .slice A1_2 l1_2.length c1_2] 45 (0, 0)) (by (with_reducible repeat (first | refine blk_drewN ?_ _ | refine blk_drew ?_ | refine blk_alloc ?_ _)); exact BK347.out) hb); have n1_ := Aside0.mk (below_step (by repeat (first | (with_reducible first | exact HB.out | apply below_alloc | apply pw_below_drewN | apply below_drew1 | refine below_set ?_ GE347.out) | exact HB.out)) hb); clear BK347; clear HB; have BK347 := n0_; have HB := n1_; clear n0_ n1_; (try clear hb); (try clear hb2); (try clear hk); (try clear hi)))
      go_ret
      exact ⟨by first | rfl | (simp [errW_none, errW_some] <;> rfl) | (simp [*, errW_none, errW_some] <;> rfl), by repeat (first | (with_reducible first | exact HB.out | apply below_alloc | apply pw_below_drewN | apply below_drew1 | refine below_set ?_ GE347.out) | exact HB.out)⟩
    · rw [if_neg c6] at H
      have c6b0 : decide (t348 < 0) = false := decide_eq_false c6
      clear c6
      replace H := Option.bind_eq_some_iff.mp H
      obtain ⟨⟨t349, t350, t353⟩, A100, H⟩ := H
      replace H : ((spec_BatchCapped.f k a0 t349 t350 t353).bind fun t356 => ((laws_toPlanes.f k a1_0 l1_1 l1_2).bind fun bt359 => ((impl_BatchCapped.f k a0 bt359.1 bt359.2.1 bt359.2.2).bind fun t367 => ((laws_eqIntS.f k t367 t356).bind fun t370 => (if t370 = true then ((laws_toPlanes.f k a1_0 l1_1 l1_2).bind fun bt371 => ((laws_eqPlanes.f k bt359.1 bt359.2.1 bt359.2.2 bt371.1 bt371.2.1 bt371.2.2).bind fun t378 => (if t378 = true then ((laws_markPlanes.f k bt359.1 bt359.2.1 bt359.2.2 1).bind fun bt379 => (if bt379.1 < 0 then (laws_FnExactBatchCapped.j0 k a0 t356 t367 true a1_0 l1_1 l1_2) else ((laws_eqIntS.f k t367 t356).bind fun t382 => (laws_FnExactBatchCapped.j0 k a0 t356 t367 (!t382) a1_0 l1_1 l1_2)))) else (some false)))) else (some false)))))) = some r := H
      have A10 := Aside0.mk A100
      clear A100
      replace H := Option.bind_eq_some_iff.mp H
      obtain ⟨t356, A110, H⟩ := H
      replace H : ((laws_toPlanes.f k a1_0 l1_1 l1_2).bind fun bt359 => ((impl_BatchCapped.f k a0 bt359.1 bt359.2.1 bt359.2.2).bind fun t367 => ((laws_eqIntS.f k t367 t356).bind fun t370 => (if t370 = true then ((laws_toPlanes.f k a1_0 l1_1 l1_2).bind fun bt371 => ((laws_eqPlanes.f k bt359.1 bt359.2.1 bt359.2.2 bt371.1 bt371.2.1 bt371.2.2).bind fun t378 => (if t378 = true then ((laws_markPlanes.f k bt359.1 bt359.2.1 bt359.2.2 1).bind fun bt379 => (if bt379.1 < 0 then (laws_FnExactBatchCapped.j0 k a0 t356 t367 true a1_0 l1_1 l1_2) else ((laws_eqIntS.f k t367 t356).bind fun t382 => (laws_FnExactBatchCapped.j0 k a0 t356 t367 (!t382) a1_0 l1_1 l1_2)))) else (some false)))) else (some false))))) = some r := H
      have A11 := Aside0.mk A110
      clear A110
      replace H := Option.bind_eq_some_iff.mp H
      obtain ⟨⟨t359, t360, t363⟩, A120, H⟩ := H
      replace H : ((impl_BatchCapped.f k a0 t359 t360 t363).bind fun t367 => ((laws_eqIntS.f k t367 t356).bind fun t370 => (if t370 = true then ((laws_toPlanes.f k a1_0 l1_1 l1_2).bind fun bt371 => ((laws_eqPlanes.f k t359 t360 t363 bt371.1 bt371.2.1 bt371.2.2).bind fun t378 => (if t378 = true then ((laws_markPlanes.f k t359 t360 t363 1).bind fun bt379 => (if bt379.1 < 0 then (laws_FnExactBatchCapped.j0 k a0 t356 t367 true a1_0 l1_1 l1_2) else ((laws_eqIntS.f k t367 t356).bind fun t382 => (laws_FnExactBatchCapped.j0 k a0 t356 t367 (!t382) a1_0 l1_1 l1_2)))) else (some false)))) else (some false)))) = some r := H
      have A12 := Aside0.mk A120
      clear A120
      replace H := Option.bind_eq_some_iff.mp H
      obtain ⟨t367, A130, H⟩ := H
      replace H : ((laws_eqIntS.f k t367 t356).bind fun t370 => (if t370 = true then ((laws_toPlanes.f k a1_0 l1_1 l1_2).bind fun bt371 => ((laws_eqPlanes.f k t359 t360 t363 bt371.1 bt371.2.1 bt371.2.2).bind fun t378 => (if t378 = true then ((laws_markPlanes.f k t359 t360 t363 1).bind fun bt379 => (if bt379.1 < 0 then (laws_FnExactBatchCapped.j0 k a0 t356 t367 true a1_0 l1_1 l1_2) else ((laws_eqIntS.f k t367 t356).bind fun t382 => (laws_FnExactBatchCapped.j0 k a0 t356 t367 (!t382) a1_0 l1_1 l1_2)))) else (some false)))) else (some false))) = some r := H
      have A13 := Aside0.mk A130
      clear A130
      replace H := Option.bind_eq_some_iff.mp H
      obtain ⟨t370, A140, H⟩ := H
      replace H : (if t370 = true then ((laws_toPlanes.f k a1_0 l1_1 l1_2).bind fun bt371 => ((laws_eqPlanes.f k t359 t360 t363 bt371.1 bt371.2.1 bt371.2.2).bind fun t378 => (if t378 = true then ((laws_markPlanes.f k t359 t360 t363 1).bind fun bt379 => (if bt379.1 < 0 then (laws_FnExactBatchCapped.j0 k a0 t356 t367 true a1_0 l1_1 l1_2) else ((laws_eqIntS.f k t367 t356).bind fun t382 => (laws_FnExactBatchCapped.j0 k a0 t356 t367 (!t382) a1_0 l1_1 l1_2)))) else (some false)))) else (some false)) = some r := H
      have A14 := Aside0.mk A140
      clear A140
      by_cases c15 : t370 = true
      · subst c15
        have H1 : ((laws_toPlanes.f k a1_0 l1_1 l1_2).bind fun bt371 => ((laws_eqPlanes.f k t359 t360 t363 bt371.1 bt371.2.1 bt371.2.2).bind fun t378 => (if t378 = true then ((laws_markPlanes.f k t359 t360 t363 1).bind fun bt379 => (if bt379.1 < 0 then (laws_FnExactBatchCapped.j0 k a0 t356 t367 true a1_0 l1_1 l1_2) else ((laws_eqIntS.f k t367 t356).bind fun t382 => (laws_FnExactBatchCapped.j0 k a0 t356 t367 (!t382) a1_0 l1_1 l1_2)))) else (some false)))) = some r := by rw [if_pos rfl] at H; exact H
        clear H
        have H := H1
        clear H1
        replace H := Option.bind_eq_some_iff.mp H
        obtain ⟨⟨t371, t372, t375⟩, A160, H⟩ := H
        replace H : ((laws_eqPlanes.f k t359 t360 t363 t371 t372 t375).bind fun t378 => (if t378 = true then ((laws_markPlanes.f k t359 t360 t363 1).bind fun bt379 => (if bt379.1 < 0 then (laws_FnExactBatchCapped.j0 k a0 t356 t367 true a1_0 l1_1 l1_2) else ((laws_eqIntS.f k t367 t356).bind fun t382 => (laws_FnExactBatchCapped.j0 k a0 t356 t367 (!t382) a1_0 l1_1 l1_2)))) else (some false))) = some r := H
        have A16 := Aside0.mk A160
        clear A160
        replace H := Option.bind_eq_some_iff.mp H
        obtain ⟨t378, A170, H⟩ := H
        replace H : (if t378 = true then ((laws_markPlanes.f k t359 t360 t363 1).bind fun bt379 => (if bt379.1 < 0 then (laws_FnExactBatchCapped.j0 k a0 t356 t367 true a1_0 l1_1 l1_2) else ((laws_eqIntS.f k t367 t356).bind fun t382 => (laws_FnExactBatchCapped.j0 k a0 t356 t367 (!t382) a1_0 l1_1 l1_2)))) else (some false)) = some r := H
        have A17 := Aside0.mk A170
        clear A170
        by_cases c18 : t378 = true
        · subst c18
          have H1 : ((laws_markPlanes.f k t359 t360 t363 1).bind fun bt379 => (if bt379.1 < 0 then (laws_FnExactBatchCapped.j0 k a0 t356 t367 true a1_0 l1_1 l1_2) else ((laws_eqIntS.f k t367 t356).bind fun t382 => (laws_FnExactBatchCapped.j0 k a0 t356 t367 (!t382) a1_0 l1_1 l1_2)))) = some r := by rw [if_pos rfl] at H; exact H
          clear H
          have H := H1
          clear H1
          replace H := Option.bind_eq_some_iff.mp H
          obtain ⟨⟨t379, t380, t381⟩, A190, H⟩ := H
          replace H : (if t379 < 0 then (laws_FnExactBatchCapped.j0 k a0 t356 t367 true a1_0 l1_1 l1_2) else ((laws_eqIntS.f k t367 t356).bind fun t382 => (laws_FnExactBatchCapped.j0 k a0 t356 t367 (!t382) a1_0 l1_1 l1_2))) = some r := H
          have A19 := Aside0.mk A190
          clear A190
          have HC20 := Aside0.mk H
          clear H
          go_enter Try.func7, Try.ntmps7
          try go_wp2_with (first | ((with_reducible refine gate_dst (N := 3) rfl ?_); refine box_event ?hg (N := 3) ?hd (cs := #[.int .i64 a1_0, .slice A1_1 l1_1.length c1_1, .slice A1_2 l1_2.length c1_2]) (t := 45) ?hr ?_; (case hd => rfl); (case hg => rfl); (case hr => first | (go_simp; done) | (go_simp; rfl)); intro gb347 hg w21 hbox hb; have n0_ := Aside0.mk (below_step (by repeat (first | (with_reducible first | exact HB.out | apply below_alloc | apply pw_below_drewN | apply below_drew1) | exact HB.out)) hb); have n1_ := Aside0.mk (hbox); have n2_ := Aside0.mk ((by rw [hg]; exact (below_size (by repeat (first | (with_reducible first | exact HB.out | apply below_alloc | apply pw_below_drewN | apply below_drew1) | exact HB.out))) : w.heap.size ≤ gb347)); have n3_ := Aside0.mk ((by rw [hg]; exact (below_size (by repeat (first | (with_reducible first | exact HB.out | apply below_alloc | apply pw_below_drewN | apply below_drew1) | exact HB.out))) : w.heap.size ≤ gb347)); clear HB; have HB := n0_; have BK347 := n1_; have GW347 := n2_; have GE347 := n3_; clear n0_ n1_ n2_ n3_; clear hb hbox hg; have hcz22_0 : w21.cell? ⟨gb347, 0, none⟩ = some (.int .i64 a1_0) := (blk_cell BK347.out 0).trans rfl; have hcz22_1 : w21.cell? ⟨gb347, 1, none⟩ = some (.slice A1_1 l1_1.length c1_1) := (blk_cell BK347.out 1).trans rfl; have hcz22_2 : w21.cell? ⟨gb347, 2, none⟩ = some (.slice A1_2 l1_2.length c1_2) := (blk_cell BK347.out 2).trans rfl; have hfz22_0 := blk_frozen BK347.out 0; have hfz22_1 := blk_frozen BK347.out 1; have hfz22_2 := blk_frozen BK347.out 2) | ((with_reducible refine gate_callee (f := 26) rfl ?_); refine goesL_ (some 18) rfl rfl Try.func26 (by kernel_rfl) rfl #[.agg #[.int .i64 a1_0, .slice A1_1 l1_1.length c1_1, .slice A1_2 l1_2.length c1_2], .int .i64 1048576] rfl (by (try simp only [List.map_toArray, List.map_cons, List.map_nil]); first | done | rfl | (simp only [List.length_drop, List.length_take]; rfl)) ?_; (with_reducible refine (laws_szPlanes.calls a1_0 _ _ l1_1 _ _ l1_2 1048576 t348 _ ?side1 ?side2 ?side3 ?side4 A5.out).mono ?_); (case side1 => repeat (first | exact (Kd.C_below HR1_1.out HB.out) | (with_reducible refine Kd.C_alloc ?_ _) | (with_reducible refine Kd.C_drewN ?_ _) | (with_reducible refine Kd.C_drew ?_))); (case side2 => exact HC1_1.out); (case side3 => repeat (first | exact (Kd.C_below HR1_2.out HB.out) | (with_reducible refine Kd.C_alloc ?_ _) | (with_reducible refine Kd.C_drewN ?_ _) | (with_reducible refine Kd.C_drew ?_))); (case side4 => exact HC1_2.out); rintro e w23 ⟨rfl, hb⟩; refine ⟨_, rfl, ?_⟩; have n0_ := Aside0.mk (blk_below (g := gb347) (o := .cells #[.int .i64 a1_0, .slice A1_1 l1_1.length c1_1, .slice A1_2 l1_2.length c1_2] 45 (0, 0)) (by (with_reducible repeat (first | refine blk_drewN ?_ _ | refine blk_drew ?_ | refine blk_alloc ?_ _)); exact BK347.out) hb); have n1_ := Aside0.mk (below_step (by repeat (first | (with_reducible first | exact HB.out | apply below_alloc | apply pw_below_drewN | apply below_drew1 | refine below_set ?_ GE347.out) | exact HB.out)) hb); clear BK347; clear HB; have BK347 := n0_; have HB := n1_; clear n0_ n1_; (try clear hb); (try clear hb2); (try clear hk); (try clear hi); have hcz24_0 : w23.cell? ⟨gb347, 0, none⟩ = some (.int .i64 a1_0) := (blk_cell BK347.out 0).trans rfl; have hcz24_1 : w23.cell? ⟨gb347, 1, none⟩ = some (.slice A1_1 l1_1.length c1_1) := (blk_cell BK347.out 1).trans rfl; have hcz24_2 : w23.cell? ⟨gb347, 2, none⟩ = some (.slice A1_2 l1_2.length c1_2) := (blk_cell BK347.out 2).trans rfl; have hfz24_0 := blk_frozen BK347.out 0; have hfz24_1 := blk_frozen BK347.out 1; have hfz24_2 := blk_frozen BK347.out 2) | ((with_reducible refine gate_callee (f := 28) rfl ?_); refine goesL_ (some 23) rfl rfl Try.func28 (by kernel_rfl) rfl #[.agg #[.int .i64 a1_0, .slice A1_1 l1_1.length c1_1, .slice A1_2 l1_2.length c1_2]] rfl (by (try simp only [List.map_toArray, List.map_cons, List.map_nil]); first | done | rfl | (simp only [List.length_drop, List.length_take]; rfl)) ?_; (with_reducible refine (laws_toPlanes.calls k a1_0 _ _ l1_1 _ _ l1_2 t349 t350 t353 _ ?side1 ?side2 ?side3 ?side4 A10.out).mono ?_); (case side1 => repeat (first | exact (Kd.C_below HR1_1.out HB.out) | (with_reducible refine Kd.C_alloc ?_ _) | (with_reducible refine Kd.C_drewN ?_ _) | (with_reducible refine Kd.C_drew ?_))); (case side2 => exact HC1_1.out); (case side3 => repeat (first | exact (Kd.C_below HR1_2.out HB.out) | (with_reducible refine Kd.C_alloc ?_ _) | (with_reducible refine Kd.C_drewN ?_ _) | (with_reducible refine Kd.C_drew ?_))); (case side4 => exact HC1_2.out); rintro e w25 ⟨v351, v354, rfl, ho0, ho1, hb⟩; refine ⟨_, rfl, ?_⟩; have n0_ := Aside0.mk (Kd.R_lower ho0 (below_size (by repeat (first | (with_reducible first | exact HB.out | apply below_alloc | apply pw_below_drewN | apply below_drew1 | refine below_set ?_ GE347.out) | exact HB.out)))); have n1_ := Aside0.mk (Kd.R_lower ho1 (below_size (by repeat (first | (with_reducible first | exact HB.out | apply below_alloc | apply pw_below_drewN | apply below_drew1 | refine below_set ?_ GE347.out) | exact HB.out)))); have n2_ := Aside0.mk (blk_below (g := gb347) (o := .cells #[.int .i64 a1_0, .slice A1_1 l1_1.length c1_1, .slice A1_2 l1_2.length c1_2] 45 (0, 0)) (by (with_reducible repeat (first | refine blk_drewN ?_ _ | refine blk_drew ?_ | refine blk_alloc ?_ _)); exact BK347.out) hb); have n3_ := Aside0.mk (below_step (by repeat (first | (with_reducible first | exact HB.out | apply below_alloc | apply pw_below_drewN | apply below_drew1 | refine below_set ?_ GE347.out) | exact HB.out)) hb); clear BK347; clear HB; have HO352 := n0_; have HO355 := n1_; have BK347 := n2_; have HB := n3_; clear n0_ n1_ n2_ n3_; (try clear hb); (try clear hb2); (try clear hk); (try clear hi); (try clear ho0); (try clear ho1); obtain ⟨Ao26, co26, eo26⟩ := Kd.R_slice HO352.out; subst eo26; obtain ⟨Ao27, co27, eo27⟩ := Kd.R_slice HO355.out; subst eo27) | ((with_reducible refine gate_callee (f := 33) rfl ?_); refine goesL_ (some 24) rfl rfl Try.func33 (by kernel_rfl) rfl #[.string a0, .agg #[.int .i64 t349, .slice Ao26 t350.length co26, .slice Ao27 t353.length co27]] rfl (by (try simp only [List.map_toArray, List.map_cons, List.map_nil]); first | done | rfl | (simp only [List.length_drop, List.length_take]; rfl)) ?_; (with_reducible refine (spec_BatchCapped.calls k a0 t349 _ _ t350 _ _ t353 t356 _ ?side1 ?side2 ?side3 ?side4 A11.out).mono ?_); (case side1 => repeat (first | exact (Kd.R_reads' HO352.out).2.2 | (with_reducible refine Kd.C_alloc ?_ _) | (with_reducible refine Kd.C_drewN ?_ _) | (with_reducible refine Kd.C_drew ?_))); (case side2 => exact (Kd.R_reads' HO352.out).2.1); (case side3 => repeat (first | exact (Kd.R_reads' HO355.out).2.2 | (with_reducible refine Kd.C_alloc ?_ _) | (with_reducible refine Kd.C_drewN ?_ _) | (with_reducible refine Kd.C_drew ?_))); (case side4 => exact (Kd.R_reads' HO355.out).2.1); rintro e w28 ⟨v357, rfl, ho0, hb⟩; refine ⟨_, rfl, ?_⟩; have n0_ := Aside0.mk (Kd.R_below (by (with_reducible repeat (first | apply Kd.R_alloc | apply Kd.R_drewN | apply Kd.R_drew)); exact HO352.out) hb); have n1_ := Aside0.mk (Kd.R_below (by (with_reducible repeat (first | apply Kd.R_alloc | apply Kd.R_drewN | apply Kd.R_drew)); exact HO355.out) hb); have n2_ := Aside0.mk (Kd.R_lower ho0 (below_size (by repeat (first | (with_reducible first | exact HB.out | apply below_alloc | apply pw_below_drewN | apply below_drew1 | refine below_set ?_ GE347.out) | exact HB.out)))); have n3_ := Aside0.mk (blk_below (g := gb347) (o := .cells #[.int .i64 a1_0, .slice A1_1 l1_1.length c1_1, .slice A1_2 l1_2.length c1_2] 45 (0, 0)) (by (with_reducible repeat (first | refine blk_drewN ?_ _ | refine blk_drew ?_ | refine blk_alloc ?_ _)); exact BK347.out) hb); have n4_ := Aside0.mk (below_step (by repeat (first | (with_reducible first | exact HB.out | apply below_alloc | apply pw_below_drewN | apply below_drew1 | refine below_set ?_ GE347.out) | exact HB.out)) hb); clear HO352; clear HO355; clear BK347; clear HB; have HO352 := n0_; have HO355 := n1_; have HO358 := n2_; have BK347 := n3_; have HB := n4_; clear n0_ n1_ n2_ n3_ n4_; (try clear hb); (try clear hb2); (try clear hk); (try clear hi); (try clear ho0); have hcz29_0 : w28.cell? ⟨gb347, 0, none⟩ = some (.int .i64 a1_0) := (blk_cell BK347.out 0).trans rfl; have hcz29_1 : w28.cell? ⟨gb347, 1, none⟩ = some (.slice A1_1 l1_1.length c1_1) := (blk_cell BK347.out 1).trans rfl; have hcz29_2 : w28.cell? ⟨gb347, 2, none⟩ = some (.slice A1_2 l1_2.length c1_2) := (blk_cell BK347.out 2).trans rfl; have hfz29_0 := blk_frozen BK347.out 0; have hfz29_1 := blk_frozen BK347.out 1; have hfz29_2 := blk_frozen BK347.out 2) | ((with_reducible refine gate_callee (f := 28) rfl ?_); refine goesL_ (some 26) rfl rfl Try.func28 (by kernel_rfl) rfl #[.agg #[.int .i64 a1_0, .slice A1_1 l1_1.length c1_1, .slice A1_2 l1_2.length c1_2]] rfl (by (try simp only [List.map_toArray, List.map_cons, List.map_nil]); first | done | rfl | (simp only [List.length_drop, List.length_take]; rfl)) ?_; (with_reducible refine (laws_toPlanes.calls k a1_0 _ _ l1_1 _ _ l1_2 t359 t360 t363 _ ?side1 ?side2 ?side3 ?side4 A12.out).mono ?_); (case side1 => repeat (first | exact (Kd.C_below HR1_1.out HB.out) | (with_reducible refine Kd.C_alloc ?_ _) | (with_reducible refine Kd.C_drewN ?_ _) | (with_reducible refine Kd.C_drew ?_))); (case side2 => exact HC1_1.out); (case side3 => repeat (first | exact (Kd.C_below HR1_2.out HB.out) | (with_reducible refine Kd.C_alloc ?_ _) | (with_reducible refine Kd.C_drewN ?_ _) | (with_reducible refine Kd.C_drew ?_))); (case side4 => exact HC1_2.out); rintro e w30 ⟨v361, v364, rfl, ho0, ho1, hb⟩; refine ⟨_, rfl, ?_⟩; have n0_ := Aside0.mk (Kd.R_mono (Kd.R_told (Kd.R_told (Kd.R_old (by (with_reducible repeat (first | apply Kd.R_alloc | apply Kd.R_drewN | apply Kd.R_drew)); exact HO352.out) hb) (Kd.R_base ho0)) (Kd.R_base ho1)) (fun _ h_ => h_.1)); have n1_ := Aside0.mk (Kd.R_mono (Kd.R_told (Kd.R_told (Kd.R_old (by (with_reducible repeat (first | apply Kd.R_alloc | apply Kd.R_drewN | apply Kd.R_drew)); exact HO355.out) hb) (Kd.R_base ho0)) (Kd.R_base ho1)) (fun _ h_ => h_.1)); have n2_ := Aside0.mk (Kd.R_below (by (with_reducible repeat (first | apply Kd.R_alloc | apply Kd.R_drewN | apply Kd.R_drew)); exact HO358.out) hb); have n3_ := Aside0.mk (Kd.R_lower (Kd.R_new' (Kd.R_new' ho0 (Kd.R_lt (by (with_reducible repeat (first | apply Kd.R_alloc | apply Kd.R_drewN | apply Kd.R_drew)); exact HO352.out))) (Kd.R_lt (by (with_reducible repeat (first | apply Kd.R_alloc | apply Kd.R_drewN | apply Kd.R_drew)); exact HO355.out))) (below_size (by repeat (first | (with_reducible first | exact HB.out | apply below_alloc | apply pw_below_drewN | apply below_drew1 | refine below_set ?_ GE347.out) | exact HB.out)))); have n4_ := Aside0.mk (Kd.R_lower (Kd.R_new' (Kd.R_new' ho1 (Kd.R_lt (by (with_reducible repeat (first | apply Kd.R_alloc | apply Kd.R_drewN | apply Kd.R_drew)); exact HO352.out))) (Kd.R_lt (by (with_reducible repeat (first | apply Kd.R_alloc | apply Kd.R_drewN | apply Kd.R_drew)); exact HO355.out))) (below_size (by repeat (first | (with_reducible first | exact HB.out | apply below_alloc | apply pw_below_drewN | apply below_drew1 | refine below_set ?_ GE347.out) | exact HB.out)))); have n5_ := Aside0.mk (blk_below (g := gb347) (o := .cells #[.int .i64 a1_0, .slice A1_1 l1_1.length c1_1, .slice A1_2 l1_2.length c1_2] 45 (0, 0)) (by (with_reducible repeat (first | refine blk_drewN ?_ _ | refine blk_drew ?_ | refine blk_alloc ?_ _)); exact BK347.out) hb); have n6_ := Aside0.mk (below_step (by repeat (first | (with_reducible first | exact HB.out | apply below_alloc | apply pw_below_drewN | apply below_drew1 | refine below_set ?_ GE347.out) | exact HB.out)) hb); clear HO352; clear HO355; clear HO358; clear BK347; clear HB; have HO352 := n0_; have HO355 := n1_; have HO358 := n2_; have HO362 := n3_; have HO365 := n4_; have BK347 := n5_; have HB := n6_; clear n0_ n1_ n2_ n3_ n4_ n5_ n6_; (try clear hb); (try clear hb2); (try clear hk); (try clear hi); (try clear ho0); (try clear ho1)) | ((with_reducible refine gate_dst (N := 7) rfl ?_); refine box_event ?hg (N := 7) ?hd (cs := #[.int .i64 0, .slice none 0 0, .slice none 0 0]) (t := 37) ?hr ?_; (case hd => rfl); (case hg => rfl); (case hr => first | (go_simp; done) | (go_simp; rfl)); intro gb366 hg w31 hbox hb; have n0_ := Aside0.mk (Kd.R_below (by (with_reducible repeat (first | apply Kd.R_alloc | apply Kd.R_drewN | apply Kd.R_drew)); exact HO352.out) hb); have n1_ := Aside0.mk (Kd.R_below (by (with_reducible repeat (first | apply Kd.R_alloc | apply Kd.R_drewN | apply Kd.R_drew)); exact HO355.out) hb); have n2_ := Aside0.mk (Kd.R_below (by (with_reducible repeat (first | apply Kd.R_alloc | apply Kd.R_drewN | apply Kd.R_drew)); exact HO358.out) hb); have n3_ := Aside0.mk (Kd.R_below (by (with_reducible repeat (first | apply Kd.R_alloc | apply Kd.R_drewN | apply Kd.R_drew)); exact HO362.out) hb); have n4_ := Aside0.mk (Kd.R_below (by (with_reducible repeat (first | apply Kd.R_alloc | apply Kd.R_drewN | apply Kd.R_drew)); exact HO365.out) hb); have n5_ := Aside0.mk (blk_below (g := gb347) (o := .cells #[.int .i64 a1_0, .slice A1_1 l1_1.length c1_1, .slice A1_2 l1_2.length c1_2] 45 (0, 0)) (by (with_reducible repeat (first | refine blk_drewN ?_ _ | refine blk_drew ?_ | refine blk_alloc ?_ _)); exact BK347.out) hb); have n6_ := Aside0.mk (below_step (by repeat (first | (with_reducible first | exact HB.out | apply below_alloc | apply pw_below_drewN | apply below_drew1 | refine below_set ?_ GE347.out) | exact HB.out)) hb); have n7_ := Aside0.mk (hbox); have n8_ := Aside0.mk ((by rw [hg]; exact (below_size (by repeat (first | (with_reducible first | exact HB.out | apply below_alloc | apply pw_below_drewN | apply below_drew1 | refine below_set ?_ GE347.out) | exact HB.out))) : w.heap.size ≤ gb366)); have n9_ := Aside0.mk ((by rw [hg]; exact (below_size (by repeat (first | (with_reducible first | exact HB.out | apply below_alloc | apply pw_below_drewN | apply below_drew1 | refine below_set ?_ GE347.out) | exact HB.out))) : w.heap.size ≤ gb366)); have n10_ := Aside0.mk ((by rw [hg]; exact Nat.ne_of_lt (blk_lt (g := gb347) (o := .cells #[.int .i64 a1_0, .slice A1_1 l1_1.length c1_1, .slice A1_2 l1_2.length c1_2] 45 (0, 0)) (by (with_reducible repeat (first | refine blk_drewN ?_ _ | refine blk_drew ?_ | refine blk_alloc ?_ _)); exact BK347.out)) : gb347 ≠ gb366)); have n11_ := Aside0.mk ((by rw [hg]; exact Nat.ne_of_gt (blk_lt (g := gb347) (o := .cells #[.int .i64 a1_0, .slice A1_1 l1_1.length c1_1, .slice A1_2 l1_2.length c1_2] 45 (0, 0)) (by (with_reducible repeat (first | refine blk_drewN ?_ _ | refine blk_drew ?_ | refine blk_alloc ?_ _)); exact BK347.out)) : gb366 ≠ gb347)); clear HO352; clear HO355; clear HO358; clear HO362; clear HO365; clear BK347; clear HB; have HO352 := n0_; have HO355 := n1_; have HO358 := n2_; have HO362 := n3_; have HO365 := n4_; have BK347 := n5_; have HB := n6_; have BK366 := n7_; have GW366 := n8_; have GE366 := n9_; have NB347_366 := n10_; have NB366_347 := n11_; clear n0_ n1_ n2_ n3_ n4_ n5_ n6_ n7_ n8_ n9_ n10_ n11_; clear hb hbox hg; have hnb32 := NB366_347.out; have hnc32 := NB347_366.out; have hcz33_0 : w31.cell? ⟨gb366, 0, none⟩ = some (.int .i64 0) := (blk_cell BK366.out 0).trans rfl; have hcz33_1 : w31.cell? ⟨gb366, 1, none⟩ = some (.slice none 0 0) := (blk_cell BK366.out 1).trans rfl; have hcz33_2 : w31.cell? ⟨gb366, 2, none⟩ = some (.slice none 0 0) := (blk_cell BK366.out 2).trans rfl; have hfz33_0 := blk_frozen BK366.out 0; have hfz33_1 := blk_frozen BK366.out 1; have hfz33_2 := blk_frozen BK366.out 2; obtain ⟨Ao34, co34, eo34⟩ := Kd.R_slice HO362.out; subst eo34; obtain ⟨Ao35, co35, eo35⟩ := Kd.R_slice HO365.out; subst eo35) | ((with_reducible refine gate_callee (f := 34) rfl ?_); refine goesL_ (some 29) rfl rfl Try.func34 (by kernel_rfl) rfl #[.string a0, .agg #[.int .i64 t359, .slice Ao34 t360.length co34, .slice Ao35 t363.length co35]] rfl (by (try simp only [List.map_toArray, List.map_cons, List.map_nil]); first | done | rfl | (simp only [List.length_drop, List.length_take]; rfl)) ?_; (with_reducible refine (impl_BatchCapped.calls k a0 t359 _ _ t360 _ _ t363 t367 _ ?side1 ?side2 ?side3 ?side4 A13.out).mono ?_); (case side1 => refine (Kd.R_reads' (e := 30) (base := w.heap.size) (ok := fun k_ => ((some k_ ≠ (.slice Ao35 t363.length co35 : Value).ownBlock ∧ some k_ ≠ (.slice Ao26 t350.length co26 : Value).ownBlock) ∧ some k_ ≠ (.slice Ao27 t353.length co27 : Value).ownBlock)) (n := t360.length) (c := co34) ?_).2.2; exact (by (with_reducible repeat (first | apply Kd.R_alloc | apply Kd.R_drewN | apply Kd.R_drew)); exact (Kd.R_mono (Kd.R_far (p := ⟨gb366, 2, none⟩) (Kd.R_far (p := ⟨gb366, 1, none⟩) (Kd.R_far (p := ⟨gb366, 0, none⟩) (Kd.R_types HO362.out BK366.out (by decide)) (fun _ hk => by first | exact hk.2 | trivial | (simp only [hk, ne_eq, not_false_eq_true, and_self, and_true, true_and, implies_true]; done) | (simp [hk]; done)) (.int .i64 t359)) (fun _ hk => by first | exact hk.2 | trivial | (simp only [hk, ne_eq, not_false_eq_true, and_self, and_true, true_and, implies_true]; done) | (simp [hk]; done)) (.slice Ao34 t360.length co34)) (fun _ hk => by first | exact hk.2 | trivial | (simp only [hk, ne_eq, not_false_eq_true, and_self, and_true, true_and, implies_true]; done) | (simp [hk]; done)) (.slice Ao35 t363.length co35)) (fun _ h_ => h_.1)))); (case side2 => exact (Kd.R_reads' HO362.out).2.1); (case side3 => refine (Kd.R_reads' (e := 30) (base := w.heap.size) (ok := fun k_ => ((some k_ ≠ (.slice Ao34 t360.length co34 : Value).ownBlock ∧ some k_ ≠ (.slice Ao26 t350.length co26 : Value).ownBlock) ∧ some k_ ≠ (.slice Ao27 t353.length co27 : Value).ownBlock)) (n := t363.length) (c := co35) ?_).2.2; exact (by (with_reducible repeat (first | apply Kd.R_alloc | apply Kd.R_drewN | apply Kd.R_drew)); exact (Kd.R_mono (Kd.R_far (p := ⟨gb366, 2, none⟩) (Kd.R_far (p := ⟨gb366, 1, none⟩) (Kd.R_far (p := ⟨gb366, 0, none⟩) (Kd.R_types HO365.out BK366.out (by decide)) (fun _ hk => by first | exact hk.2 | trivial | (simp only [hk, ne_eq, not_false_eq_true, and_self, and_true, true_and, implies_true]; done) | (simp [hk]; done)) (.int .i64 t359)) (fun _ hk => by first | exact hk.2 | trivial | (simp only [hk, ne_eq, not_false_eq_true, and_self, and_true, true_and, implies_true]; done) | (simp [hk]; done)) (.slice Ao34 t360.length co34)) (fun _ hk => by first | exact hk.2 | trivial | (simp only [hk, ne_eq, not_false_eq_true, and_self, and_true, true_and, implies_true]; done) | (simp [hk]; done)) (.slice Ao35 t363.length co35)) (fun _ h_ => h_.1)))); (case side4 => exact (Kd.R_reads' HO365.out).2.1); rintro e w36 ⟨v368, rfl, ho0, hb⟩; refine ⟨_, rfl, ?_⟩; have n0_ := Aside0.mk (Kd.R_below (by (with_reducible repeat (first | apply Kd.R_alloc | apply Kd.R_drewN | apply Kd.R_drew)); exact (Kd.R_mono (Kd.R_far (p := ⟨gb366, 2, none⟩) (Kd.R_far (p := ⟨gb366, 1, none⟩) (Kd.R_far (p := ⟨gb366, 0, none⟩) (Kd.R_types HO352.out BK366.out (by decide)) (fun _ hk => by first | exact hk.2 | trivial | (simp only [hk, ne_eq, not_false_eq_true, and_self, and_true, true_and, implies_true]; done) | (simp [hk]; done)) (.int .i64 t359)) (fun _ hk => by first | exact hk.2 | trivial | (simp only [hk, ne_eq, not_false_eq_true, and_self, and_true, true_and, implies_true]; done) | (simp [hk]; done)) (.slice Ao34 t360.length co34)) (fun _ hk => by first | exact hk.2 | trivial | (simp only [hk, ne_eq, not_false_eq_true, and_self, and_true, true_and, implies_true]; done) | (simp [hk]; done)) (.slice Ao35 t363.length co35)) (fun _ h_ => h_.1))) hb); have n1_ := Aside0.mk (Kd.R_below (by (with_reducible repeat (first | apply Kd.R_alloc | apply Kd.R_drewN | apply Kd.R_drew)); exact (Kd.R_mono (Kd.R_far (p := ⟨gb366, 2, none⟩) (Kd.R_far (p := ⟨gb366, 1, none⟩) (Kd.R_far (p := ⟨gb366, 0, none⟩) (Kd.R_types HO355.out BK366.out (by decide)) (fun _ hk => by first | exact hk.2 | trivial | (simp only [hk, ne_eq, not_false_eq_true, and_self, and_true, true_and, implies_true]; done) | (simp [hk]; done)) (.int .i64 t359)) (fun _ hk => by first | exact hk.2 | trivial | (simp only [hk, ne_eq, not_false_eq_true, and_self, and_true, true_and, implies_true]; done) | (simp [hk]; done)) (.slice Ao34 t360.length co34)) (fun _ hk => by first | exact hk.2 | trivial | (simp only [hk, ne_eq, not_false_eq_true, and_self, and_true, true_and, implies_true]; done) | (simp [hk]; done)) (.slice Ao35 t363.length co35)) (fun _ h_ => h_.1))) hb); have n2_ := Aside0.mk (Kd.R_elder' (by (with_reducible repeat (first | apply Kd.R_alloc | apply Kd.R_drewN | apply Kd.R_drew)); exact (Kd.R_mono (Kd.R_far (p := ⟨gb366, 2, none⟩) (Kd.R_far (p := ⟨gb366, 1, none⟩) (Kd.R_far (p := ⟨gb366, 0, none⟩) (Kd.R_types HO358.out BK366.out (by decide)) (fun _ hk => by first | exact hk.2 | trivial | (simp only [hk, ne_eq, not_false_eq_true, and_self, and_true, true_and, implies_true]; done) | (simp [hk]; done)) (.int .i64 t359)) (fun _ hk => by first | exact hk.2 | trivial | (simp only [hk, ne_eq, not_false_eq_true, and_self, and_true, true_and, implies_true]; done) | (simp [hk]; done)) (.slice Ao34 t360.length co34)) (fun _ hk => by first | exact hk.2 | trivial | (simp only [hk, ne_eq, not_false_eq_true, and_self, and_true, true_and, implies_true]; done) | (simp [hk]; done)) (.slice Ao35 t363.length co35)) (fun _ h_ => h_.1))) (Kd.R_base ho0) hb); have n3_ := Aside0.mk (Kd.R_below (by (with_reducible repeat (first | apply Kd.R_alloc | apply Kd.R_drewN | apply Kd.R_drew)); exact (Kd.R_mono (Kd.R_far (p := ⟨gb366, 2, none⟩) (Kd.R_far (p := ⟨gb366, 1, none⟩) (Kd.R_far (p := ⟨gb366, 0, none⟩) (Kd.R_types HO362.out BK366.out (by decide)) (fun _ hk => by first | exact hk.2 | trivial | (simp only [hk, ne_eq, not_false_eq_true, and_self, and_true, true_and, implies_true]; done) | (simp [hk]; done)) (.int .i64 t359)) (fun _ hk => by first | exact hk.2 | trivial | (simp only [hk, ne_eq, not_false_eq_true, and_self, and_true, true_and, implies_true]; done) | (simp [hk]; done)) (.slice Ao34 t360.length co34)) (fun _ hk => by first | exact hk.2 | trivial | (simp only [hk, ne_eq, not_false_eq_true, and_self, and_true, true_and, implies_true]; done) | (simp [hk]; done)) (.slice Ao35 t363.length co35)) (fun _ h_ => h_.1))) hb); have n4_ := Aside0.mk (Kd.R_below (by (with_reducible repeat (first | apply Kd.R_alloc | apply Kd.R_drewN | apply Kd.R_drew)); exact (Kd.R_mono (Kd.R_far (p := ⟨gb366, 2, none⟩) (Kd.R_far (p := ⟨gb366, 1, none⟩) (Kd.R_far (p := ⟨gb366, 0, none⟩) (Kd.R_types HO365.out BK366.out (by decide)) (fun _ hk => by first | exact hk.2 | trivial | (simp only [hk, ne_eq, not_false_eq_true, and_self, and_true, true_and, implies_true]; done) | (simp [hk]; done)) (.int .i64 t359)) (fun _ hk => by first | exact hk.2 | trivial | (simp only [hk, ne_eq, not_false_eq_true, and_self, and_true, true_and, implies_true]; done) | (simp [hk]; done)) (.slice Ao34 t360.length co34)) (fun _ hk => by first | exact hk.2 | trivial | (simp only [hk, ne_eq, not_false_eq_true, and_self, and_true, true_and, implies_true]; done) | (simp [hk]; done)) (.slice Ao35 t363.length co35)) (fun _ h_ => h_.1))) hb); have n5_ := Aside0.mk (Kd.R_lower (Kd.R_new' ho0 (Kd.R_lt (by (with_reducible repeat (first | apply Kd.R_alloc | apply Kd.R_drewN | apply Kd.R_drew)); exact (Kd.R_mono (Kd.R_far (p := ⟨gb366, 2, none⟩) (Kd.R_far (p := ⟨gb366, 1, none⟩) (Kd.R_far (p := ⟨gb366, 0, none⟩) (Kd.R_types HO358.out BK366.out (by decide)) (fun _ hk => by first | exact hk.2 | trivial | (simp only [hk, ne_eq, not_false_eq_true, and_self, and_true, true_and, implies_true]; done) | (simp [hk]; done)) (.int .i64 t359)) (fun _ hk => by first | exact hk.2 | trivial | (simp only [hk, ne_eq, not_false_eq_true, and_self, and_true, true_and, implies_true]; done) | (simp [hk]; done)) (.slice Ao34 t360.length co34)) (fun _ hk => by first | exact hk.2 | trivial | (simp only [hk, ne_eq, not_false_eq_true, and_self, and_true, true_and, implies_true]; done) | (simp [hk]; done)) (.slice Ao35 t363.length co35)) (fun _ h_ => h_.1))))) (below_size (by repeat (first | (with_reducible first | exact HB.out | apply below_alloc | apply pw_below_drewN | apply below_drew1 | refine below_set ?_ GE347.out | refine below_set ?_ GE366.out) | exact HB.out)))); have n6_ := Aside0.mk (blk_below (g := gb347) (o := .cells #[.int .i64 a1_0, .slice A1_1 l1_1.length c1_1, .slice A1_2 l1_2.length c1_2] 45 (0, 0)) (by (with_reducible repeat (first | refine blk_drewN ?_ _ | refine blk_drew ?_ | refine blk_alloc ?_ _)); refine blk_far ?_ NB347_366.out _; (with_reducible repeat (first | refine blk_drewN ?_ _ | refine blk_drew ?_ | refine blk_alloc ?_ _)); refine blk_far ?_ NB347_366.out _; (with_reducible repeat (first | refine blk_drewN ?_ _ | refine blk_drew ?_ | refine blk_alloc ?_ _)); refine blk_far ?_ NB347_366.out _; (with_reducible repeat (first | refine blk_drewN ?_ _ | refine blk_drew ?_ | refine blk_alloc ?_ _)); exact BK347.out) hb); have n7_ := Aside0.mk (blk_below (g := gb366) (o := .cells #[.int .i64 t359, .slice Ao34 t360.length co34, .slice Ao35 t363.length co35] 37 (0, 0)) (by (with_reducible repeat (first | refine blk_drewN ?_ _ | refine blk_drew ?_ | refine blk_alloc ?_ _)); refine blk_put (cs := #[.int .i64 t359, .slice Ao34 t360.length co34, .slice none 0 0]) ?_ 2 _ rfl; (with_reducible repeat (first | refine blk_drewN ?_ _ | refine blk_drew ?_ | refine blk_alloc ?_ _)); refine blk_put (cs := #[.int .i64 t359, .slice none 0 0, .slice none 0 0]) ?_ 1 _ rfl; (with_reducible repeat (first | refine blk_drewN ?_ _ | refine blk_drew ?_ | refine blk_alloc ?_ _)); refine blk_put (cs := #[.int .i64 0, .slice none 0 0, .slice none 0 0]) ?_ 0 _ rfl; (with_reducible repeat (first | refine blk_drewN ?_ _ | refine blk_drew ?_ | refine blk_alloc ?_ _)); exact BK366.out) hb); have n8_ := Aside0.mk (below_step (by repeat (first | (with_reducible first | exact HB.out | apply below_alloc | apply pw_below_drewN | apply below_drew1 | refine below_set ?_ GE347.out | refine below_set ?_ GE366.out) | exact HB.out)) hb); clear HO352; clear HO355; clear HO358; clear HO362; clear HO365; clear BK347; clear BK366; clear HB; have HO352 := n0_; have HO355 := n1_; have HO358 := n2_; have HO362 := n3_; have HO365 := n4_; have HO369 := n5_; have BK347 := n6_; have BK366 := n7_; have HB := n8_; clear n0_ n1_ n2_ n3_ n4_ n5_ n6_ n7_ n8_; (try clear hb); (try clear hb2); (try clear hk); (try clear hi); (try clear ho0); obtain ⟨Ao37, co37, eo37⟩ := Kd.R_slice HO369.out; subst eo37; obtain ⟨Ao38, co38, eo38⟩ := Kd.R_slice HO358.out; subst eo38) | ((with_reducible refine gate_callee (f := 35) rfl ?_); refine goesL_ (some 32) rfl rfl Try.func35 (by kernel_rfl) rfl #[.slice Ao37 t367.length co37, .slice Ao38 t356.length co38] rfl (by (try simp only [List.map_toArray, List.map_cons, List.map_nil]); first | done | rfl | (simp only [List.length_drop, List.length_take]; rfl)) ?_; (with_reducible refine (laws_eqIntS.calls k _ _ t367 _ _ t356 true _ ?side1 ?side2 ?side3 ?side4 A14.out).mono ?_); (case side1 => repeat (first | exact (Kd.R_reads' HO369.out).2.2 | (with_reducible refine Kd.C_alloc ?_ _) | (with_reducible refine Kd.C_drewN ?_ _) | (with_reducible refine Kd.C_drew ?_))); (case side2 => exact (Kd.R_reads' HO369.out).2.1); (case side3 => repeat (first | exact (Kd.R_reads' HO358.out).2.2 | (with_reducible refine Kd.C_alloc ?_ _) | (with_reducible refine Kd.C_drewN ?_ _) | (with_reducible refine Kd.C_drew ?_))); (case side4 => exact (Kd.R_reads' HO358.out).2.1); rintro e w' ⟨rfl, ⟨nd, rfl⟩⟩; refine ⟨_, rfl, ?_⟩))
          (try (rw [drewN_self w36]; generalize hq_ : World.drewN w36 _ = w36; have n0_ : Aside0 (Kd.R (Kd.int .u64) 30 w36 w.heap.size (fun k_ => some k_ ≠ (.slice Ao27 t353.length co27 : Value).ownBlock ∧ some k_ ≠ (.slice Ao34 t360.length co34 : Value).ownBlock ∧ some k_ ≠ (.slice Ao35 t363.length co35 : Value).ownBlock) (.slice Ao26 t350.length co26) t350) := ⟨by rw [← hq_]; exact (by (with_reducible repeat (first | apply Kd.R_alloc | apply Kd.R_drewN | apply Kd.R_drew)); exact Kd.R_mono HO352.out (fun _ hk => ⟨hk.1.1, ⟨hk.1.2, hk.2⟩⟩))⟩; have n1_ : Aside0 (Kd.R (Kd.int .u64) 30 w36 w.heap.size (fun k_ => some k_ ≠ (.slice Ao26 t350.length co26 : Value).ownBlock ∧ some k_ ≠ (.slice Ao34 t360.length co34 : Value).ownBlock ∧ some k_ ≠ (.slice Ao35 t363.length co35 : Value).ownBlock) (.slice Ao27 t353.length co27) t353) := ⟨by rw [← hq_]; exact (by (with_reducible repeat (first | apply Kd.R_alloc | apply Kd.R_drewN | apply Kd.R_drew)); exact Kd.R_mono HO355.out (fun _ hk => ⟨hk.1.1, ⟨hk.1.2, hk.2⟩⟩))⟩; have n2_ : Aside0 (Kd.R (Kd.int .i64) 3 w36 w.heap.size (fun k_ => some k_ ≠ (.slice Ao37 t367.length co37 : Value).ownBlock) (.slice Ao38 t356.length co38) t356) := ⟨by rw [← hq_]; exact (by (with_reducible repeat (first | apply Kd.R_alloc | apply Kd.R_drewN | apply Kd.R_drew)); exact Kd.R_mono HO358.out (fun _ hk => by first | exact hk.2 | trivial | (simp only [hk, ne_eq, not_false_eq_true, and_self, and_true, true_and, implies_true]; done) | (simp [hk]; done)))⟩; have n3_ : Aside0 (Kd.R (Kd.int .u64) 30 w36 w.heap.size (fun k_ => some k_ ≠ (.slice Ao26 t350.length co26 : Value).ownBlock ∧ some k_ ≠ (.slice Ao27 t353.length co27 : Value).ownBlock ∧ some k_ ≠ (.slice Ao35 t363.length co35 : Value).ownBlock) (.slice Ao34 t360.length co34) t360) := ⟨by rw [← hq_]; exact (by (with_reducible repeat (first | apply Kd.R_alloc | apply Kd.R_drewN | apply Kd.R_drew)); exact Kd.R_mono HO362.out (fun _ hk => ⟨hk.1.2, ⟨hk.2, hk.1.1⟩⟩))⟩; have n4_ : Aside0 (Kd.R (Kd.int .u64) 30 w36 w.heap.size (fun k_ => some k_ ≠ (.slice Ao26 t350.length co26 : Value).ownBlock ∧ some k_ ≠ (.slice Ao27 t353.length co27 : Value).ownBlock ∧ some k_ ≠ (.slice Ao34 t360.length co34 : Value).ownBlock) (.slice Ao35 t363.length co35) t363) := ⟨by rw [← hq_]; exact (by (with_reducible repeat (first | apply Kd.R_alloc | apply Kd.R_drewN | apply Kd.R_drew)); exact Kd.R_mono HO365.out (fun _ hk => ⟨hk.1.2, ⟨hk.2, hk.1.1⟩⟩))⟩; have n5_ : Aside0 (Kd.R (Kd.int .i64) 3 w36 w.heap.size (fun k_ => some k_ ≠ (.slice Ao38 t356.length co38 : Value).ownBlock) (.slice Ao37 t367.length co37) t367) := ⟨by rw [← hq_]; exact (by (with_reducible repeat (first | apply Kd.R_alloc | apply Kd.R_drewN | apply Kd.R_drew)); exact Kd.R_mono HO369.out (fun _ hk => by first | exact hk.2 | trivial | (simp only [hk, ne_eq, not_false_eq_true, and_self, and_true, true_and, implies_true]; done) | (simp [hk]; done)))⟩; have n6_ : Aside0 (w36.heap[gb347]? = some (.cells #[.int .i64 a1_0, .slice A1_1 l1_1.length c1_1, .slice A1_2 l1_2.length c1_2] 45 (0, 0))) := ⟨by rw [← hq_]; exact (by (with_reducible repeat (first | refine blk_drewN ?_ _ | refine blk_drew ?_ | refine blk_alloc ?_ _)); exact BK347.out)⟩; have n7_ : Aside0 (w36.heap[gb366]? = some (.cells #[.int .i64 t359, .slice Ao34 t360.length co34, .slice Ao35 t363.length co35] 37 (0, 0))) := ⟨by rw [← hq_]; exact (by (with_reducible repeat (first | refine blk_drewN ?_ _ | refine blk_drew ?_ | refine blk_alloc ?_ _)); exact BK366.out)⟩; have n8_ : Aside0 (Below w.heap.size w w36) := ⟨by rw [← hq_]; exact (by repeat (first | (with_reducible first | exact HB.out | apply below_alloc | apply pw_below_drewN | apply below_drew1 | refine below_set ?_ GE347.out | refine below_set ?_ GE366.out) | exact HB.out))⟩; clear HO352 HO355 HO358 HO362 HO365 HO369 BK347 BK366 HB hq_; have HO352 := n0_; have HO355 := n1_; have HO358 := n2_; have HO362 := n3_; have HO365 := n4_; have HO369 := n5_; have BK347 := n6_; have BK366 := n7_; have HB := n8_; clear n0_ n1_ n2_ n3_ n4_ n5_ n6_ n7_ n8_))
          have n0_ := Aside0.mk (Kd.R_drew HO352.out)
          have n1_ := Aside0.mk (Kd.R_drew HO355.out)
          have n2_ := Aside0.mk (Kd.R_drew HO358.out)
          have n3_ := Aside0.mk (Kd.R_drew HO362.out)
          have n4_ := Aside0.mk (Kd.R_drew HO365.out)
          have n5_ := Aside0.mk (Kd.R_drew HO369.out)
          have n6_ := Aside0.mk (blk_drew BK347.out)
          have n7_ := Aside0.mk (blk_drew BK366.out)
          have n8_ := Aside0.mk (below_drew1 HB.out)
          clear HO352
          clear HO355
          clear HO358
          clear HO362
          clear HO365
          clear HO369
          clear BK347
          clear BK366
          clear HB
          have HO352 := n0_
          have HO355 := n1_
          have HO358 := n2_
          have HO362 := n3_
          have HO365 := n4_
          have HO369 := n5_
          have BK347 := n6_
          have BK366 := n7_
          have HB := n8_
          clear n0_ n1_ n2_ n3_ n4_ n5_ n6_ n7_ n8_
          refine start_ (n := 5) (S := fun w' => w'.cell? ⟨gb366, 0, none⟩ = some (.int .i64 t359) ∧ w'.cell? ⟨gb366, 1, none⟩ = some (.slice Ao34 t360.length co34) ∧ w'.cell? ⟨gb366, 2, none⟩ = some (.slice Ao35 t363.length co35) ∧ w'.cell? ⟨gb347, 0, none⟩ = some (.int .i64 a1_0) ∧ w'.cell? ⟨gb347, 1, none⟩ = some (.slice A1_1 l1_1.length c1_1) ∧ w'.cell? ⟨gb347, 2, none⟩ = some (.slice A1_2 l1_2.length c1_2)) (ds := []) #[false, false, false, false, false] (by kernel_rfl) rfl rfl ⟨(blk_cell BK366.out 0).trans rfl, (blk_cell BK366.out 1).trans rfl, (blk_cell BK366.out 2).trans rfl, (blk_cell BK347.out 0).trans rfl, (blk_cell BK347.out 1).trans rfl, (blk_cell BK347.out 2).trans rfl⟩ (fun hHeld => ?_)
          generalize w36.drew = w39 at HO352 HO355 HO358 HO362 HO365 HO369 BK347 BK366 HB hHeld ⊢
          refine take_ (i := 0) (N := some 34) (v := ?_) (a' := ?_) #[true, false, false, false, false] rfl rfl (by kernel_rfl) (fun _ _ _ h => h) (Or.inl ⟨by rfl, ?_⟩) hHeld ?_ ?_
          rotate_left
          · rintro w' ⟨s0, s1, s2, s3, s4, s5⟩
            go_simp
            with_reducible rfl
          rotate_left
          · simp only [Act.put, List.setIfInBounds_toArray, List.set_cons_zero, List.set_cons_succ, i64_w, i32_w]
            rfl
          refine take_ (i := 1) (N := some 35) (v := ?_) (a' := ?_) #[true, true, false, false, false] rfl rfl (by kernel_rfl) (fun _ _ _ h => h) (Or.inl ⟨by rfl, ?_⟩) hHeld ?_ ?_
          rotate_left
          · rintro w' ⟨s0, s1, s2, s3, s4, s5⟩
            go_simp
            with_reducible rfl
          rotate_left
          · simp only [Act.put, List.setIfInBounds_toArray, List.set_cons_zero, List.set_cons_succ, i64_w, i32_w]
            rfl
          refine one_ (i := 2) (N := some 36) #[true, true, true, false, false] rfl rfl (by kernel_rfl) (by decide) (fun K hK => ?_)
          refine goes_ Try.func28 (by kernel_rfl) rfl #[.agg #[.int .i64 a1_0, .slice A1_1 l1_1.length c1_1, .slice A1_2 l1_2.length c1_2]] (by rfl) rfl rfl (by (try simp only [List.map_toArray, List.map_cons, List.map_nil]); first | done | rfl | (simp only [List.length_drop, List.length_take]; rfl)) ?_
          with_reducible refine (laws_toPlanes.calls k a1_0 _ _ l1_1 _ _ l1_2 t371 t372 t375 _ ?side1 ?side2 ?side3 ?side4 A16.out).mono ?_
          (case side1 => repeat (first | exact (Kd.C_below HR1_1.out HB.out) | (with_reducible refine Kd.C_alloc ?_ _) | (with_reducible refine Kd.C_drewN ?_ _) | (with_reducible refine Kd.C_drew ?_)))
          (case side2 => exact HC1_1.out)
          (case side3 => repeat (first | exact (Kd.C_below HR1_2.out HB.out) | (with_reducible refine Kd.C_alloc ?_ _) | (with_reducible refine Kd.C_drewN ?_ _) | (with_reducible refine Kd.C_drew ?_)))
          (case side4 => exact HC1_2.out)
          rintro e w40 ⟨v373, v376, rfl, ho0, ho1, hb⟩
          refine ⟨_, rfl, ?_⟩
          have n0_ := Aside0.mk (Kd.R_mono (Kd.R_told (Kd.R_told (Kd.R_old (by (with_reducible repeat (first | apply Kd.R_alloc | apply Kd.R_drewN | apply Kd.R_drew)); exact HO352.out) hb) (Kd.R_base ho0)) (Kd.R_base ho1)) (fun _ h_ => h_.1))
          have n1_ := Aside0.mk (Kd.R_mono (Kd.R_told (Kd.R_told (Kd.R_old (by (with_reducible repeat (first | apply Kd.R_alloc | apply Kd.R_drewN | apply Kd.R_drew)); exact HO355.out) hb) (Kd.R_base ho0)) (Kd.R_base ho1)) (fun _ h_ => h_.1))
          have n2_ := Aside0.mk (Kd.R_below (by (with_reducible repeat (first | apply Kd.R_alloc | apply Kd.R_drewN | apply Kd.R_drew)); exact HO358.out) hb)
          have n3_ := Aside0.mk (Kd.R_mono (Kd.R_told (Kd.R_told (Kd.R_old (by (with_reducible repeat (first | apply Kd.R_alloc | apply Kd.R_drewN | apply Kd.R_drew)); exact HO362.out) hb) (Kd.R_base ho0)) (Kd.R_base ho1)) (fun _ h_ => h_.1))
          have n4_ := Aside0.mk (Kd.R_mono (Kd.R_told (Kd.R_told (Kd.R_old (by (with_reducible repeat (first | apply Kd.R_alloc | apply Kd.R_drewN | apply Kd.R_drew)); exact HO365.out) hb) (Kd.R_base ho0)) (Kd.R_base ho1)) (fun _ h_ => h_.1))
          have n5_ := Aside0.mk (Kd.R_below (by (with_reducible repeat (first | apply Kd.R_alloc | apply Kd.R_drewN | apply Kd.R_drew)); exact HO369.out) hb)
          have n6_ := Aside0.mk (Kd.R_lower (Kd.R_new' (Kd.R_new' (Kd.R_new' (Kd.R_new' ho0 (Kd.R_lt (by (with_reducible repeat (first | apply Kd.R_alloc | apply Kd.R_drewN | apply Kd.R_drew)); exact HO352.out))) (Kd.R_lt (by (with_reducible repeat (first | apply Kd.R_alloc | apply Kd.R_drewN | apply Kd.R_drew)); exact HO355.out))) (Kd.R_lt (by (with_reducible repeat (first | apply Kd.R_alloc | apply Kd.R_drewN | apply Kd.R_drew)); exact HO362.out))) (Kd.R_lt (by (with_reducible repeat (first | apply Kd.R_alloc | apply Kd.R_drewN | apply Kd.R_drew)); exact HO365.out))) (below_size (by repeat (first | (with_reducible first | exact HB.out | apply below_alloc | apply pw_below_drewN | apply below_drew1 | refine below_set ?_ GE347.out | refine below_set ?_ GE366.out) | exact HB.out))))
          have n7_ := Aside0.mk (Kd.R_lower (Kd.R_new' (Kd.R_new' (Kd.R_new' (Kd.R_new' ho1 (Kd.R_lt (by (with_reducible repeat (first | apply Kd.R_alloc | apply Kd.R_drewN | apply Kd.R_drew)); exact HO352.out))) (Kd.R_lt (by (with_reducible repeat (first | apply Kd.R_alloc | apply Kd.R_drewN | apply Kd.R_drew)); exact HO355.out))) (Kd.R_lt (by (with_reducible repeat (first | apply Kd.R_alloc | apply Kd.R_drewN | apply Kd.R_drew)); exact HO362.out))) (Kd.R_lt (by (with_reducible repeat (first | apply Kd.R_alloc | apply Kd.R_drewN | apply Kd.R_drew)); exact HO365.out))) (below_size (by repeat (first | (with_reducible first | exact HB.out | apply below_alloc | apply pw_below_drewN | apply below_drew1 | refine below_set ?_ GE347.out | refine below_set ?_ GE366.out) | exact HB.out))))
          have n8_ := Aside0.mk (blk_below (g := gb347) (o := .cells #[.int .i64 a1_0, .slice A1_1 l1_1.length c1_1, .slice A1_2 l1_2.length c1_2] 45 (0, 0)) (by (with_reducible repeat (first | refine blk_drewN ?_ _ | refine blk_drew ?_ | refine blk_alloc ?_ _)); exact BK347.out) hb)
          have n9_ := Aside0.mk (blk_below (g := gb366) (o := .cells #[.int .i64 t359, .slice Ao34 t360.length co34, .slice Ao35 t363.length co35] 37 (0, 0)) (by (with_reducible repeat (first | refine blk_drewN ?_ _ | refine blk_drew ?_ | refine blk_alloc ?_ _)); exact BK366.out) hb)
          have n10_ := Aside0.mk (below_step (by repeat (first | (with_reducible first | exact HB.out | apply below_alloc | apply pw_below_drewN | apply below_drew1 | refine below_set ?_ GE347.out | refine below_set ?_ GE366.out) | exact HB.out)) hb)
          clear HO352
          clear HO355
          clear HO358
          clear HO362
          clear HO365
          clear HO369
          clear BK347
          clear BK366
          clear HB
          have HO352 := n0_
          have HO355 := n1_
          have HO358 := n2_
          have HO362 := n3_
          have HO365 := n4_
          have HO369 := n5_
          have HO374 := n6_
          have HO377 := n7_
          have BK347 := n8_
          have BK366 := n9_
          have HB := n10_
          clear n0_ n1_ n2_ n3_ n4_ n5_ n6_ n7_ n8_ n9_ n10_
          (try clear hb)
          (try clear hb2)
          (try clear hk)
          (try clear hi)
          (try clear ho0)
          (try clear ho1)
          obtain ⟨Ao41, co41, eo41⟩ := Kd.R_slice HO374.out
          (first | subst eo41 | (injection eo41 with f1_ f2_ f3_; have f4_ := f1_.symm; have f5_ := f3_.symm; clear f1_ f2_ f3_; subst f4_; subst f5_))
          obtain ⟨Ao42, co42, eo42⟩ := Kd.R_slice HO377.out
          (first | subst eo42 | (injection eo42 with f1_ f2_ f3_; have f4_ := f1_.symm; have f5_ := f3_.symm; clear f1_ f2_ f3_; subst f4_; subst f5_))
          refine hK.out _ _ ⟨(blk_cell BK366.out 0).trans rfl, (blk_cell BK366.out 1).trans rfl, (blk_cell BK366.out 2).trans rfl, (blk_cell BK347.out 0).trans rfl, (blk_cell BK347.out 1).trans rfl, (blk_cell BK347.out 2).trans rfl⟩ (fun hHeld => ?_)
          clear hK K
          refine norm_ (a' := ?_) ?_ ?_
          rotate_left
          · show Act.put _ (some 36) _ = _
            simp only [Act.put, List.setIfInBounds_toArray, List.set_cons_zero, List.set_cons_succ, i64_w, i32_w]
            rfl
          refine one_ (i := 3) (N := some 37) #[true, true, true, true, false] rfl rfl (by kernel_rfl) (by decide) (fun K hK => ?_)
          refine goes_ Try.func21 (by kernel_rfl) rfl #[.agg #[.int .i64 t359, .slice Ao34 t360.length co34, .slice Ao35 t363.length co35], .agg #[.int .i64 t371, .slice Ao41 t372.length co41, .slice Ao42 t375.length co42]] (by rfl) rfl rfl (by (try simp only [List.map_toArray, List.map_cons, List.map_nil]); first | done | rfl | (simp only [List.length_drop, List.length_take]; rfl)) ?_
          with_reducible refine (laws_eqPlanes.calls k t359 _ _ t360 _ _ t363 t371 _ _ t372 _ _ t375 true _ ?side1 ?side2 ?side3 ?side4 ?side5 ?side6 ?side7 ?side8 A17.out).mono ?_
          (case side1 => repeat (first | exact (Kd.R_reads' HO362.out).2.2 | (with_reducible refine Kd.C_alloc ?_ _) | (with_reducible refine Kd.C_drewN ?_ _) | (with_reducible refine Kd.C_drew ?_)))
          (case side2 => exact (Kd.R_reads' HO362.out).2.1)
          (case side3 => repeat (first | exact (Kd.R_reads' HO365.out).2.2 | (with_reducible refine Kd.C_alloc ?_ _) | (with_reducible refine Kd.C_drewN ?_ _) | (with_reducible refine Kd.C_drew ?_)))
          (case side4 => exact (Kd.R_reads' HO365.out).2.1)
          (case side5 => repeat (first | exact (Kd.R_reads' HO374.out).2.2 | (with_reducible refine Kd.C_alloc ?_ _) | (with_reducible refine Kd.C_drewN ?_ _) | (with_reducible refine Kd.C_drew ?_)))
          (case side6 => exact (Kd.R_reads' HO374.out).2.1)
          (case side7 => repeat (first | exact (Kd.R_reads' HO377.out).2.2 | (with_reducible refine Kd.C_alloc ?_ _) | (with_reducible refine Kd.C_drewN ?_ _) | (with_reducible refine Kd.C_drew ?_)))
          (case side8 => exact (Kd.R_reads' HO377.out).2.1)
          rintro e w43 ⟨rfl, hb⟩
          refine ⟨_, rfl, ?_⟩
          have n0_ := Aside0.mk (Kd.R_below (by (with_reducible repeat (first | apply Kd.R_alloc | apply Kd.R_drewN | apply Kd.R_drew)); exact HO352.out) hb)
          have n1_ := Aside0.mk (Kd.R_below (by (with_reducible repeat (first | apply Kd.R_alloc | apply Kd.R_drewN | apply Kd.R_drew)); exact HO355.out) hb)
          have n2_ := Aside0.mk (Kd.R_below (by (with_reducible repeat (first | apply Kd.R_alloc | apply Kd.R_drewN | apply Kd.R_drew)); exact HO358.out) hb)
          have n3_ := Aside0.mk (Kd.R_below (by (with_reducible repeat (first | apply Kd.R_alloc | apply Kd.R_drewN | apply Kd.R_drew)); exact HO362.out) hb)
          have n4_ := Aside0.mk (Kd.R_below (by (with_reducible repeat (first | apply Kd.R_alloc | apply Kd.R_drewN | apply Kd.R_drew)); exact HO365.out) hb)
          have n5_ := Aside0.mk (Kd.R_below (by (with_reducible repeat (first | apply Kd.R_alloc | apply Kd.R_drewN | apply Kd.R_drew)); exact HO369.out) hb)
          have n6_ := Aside0.mk (Kd.R_below (by (with_reducible repeat (first | apply Kd.R_alloc | apply Kd.R_drewN | apply Kd.R_drew)); exact HO374.out) hb)
          have n7_ := Aside0.mk (Kd.R_below (by (with_reducible repeat (first | apply Kd.R_alloc | apply Kd.R_drewN | apply Kd.R_drew)); exact HO377.out) hb)
          have n8_ := Aside0.mk (blk_below (g := gb347) (o := .cells #[.int .i64 a1_0, .slice A1_1 l1_1.length c1_1, .slice A1_2 l1_2.length c1_2] 45 (0, 0)) (by (with_reducible repeat (first | refine blk_drewN ?_ _ | refine blk_drew ?_ | refine blk_alloc ?_ _)); exact BK347.out) hb)
          have n9_ := Aside0.mk (blk_below (g := gb366) (o := .cells #[.int .i64 t359, .slice Ao34 t360.length co34, .slice Ao35 t363.length co35] 37 (0, 0)) (by (with_reducible repeat (first | refine blk_drewN ?_ _ | refine blk_drew ?_ | refine blk_alloc ?_ _)); exact BK366.out) hb)
          have n10_ := Aside0.mk (below_step (by repeat (first | (with_reducible first | exact HB.out | apply below_alloc | apply pw_below_drewN | apply below_drew1 | refine below_set ?_ GE347.out | refine below_set ?_ GE366.out) | exact HB.out)) hb)
          clear HO352
          clear HO355
          clear HO358
          clear HO362
          clear HO365
          clear HO369
          clear HO374
          clear HO377
          clear BK347
          clear BK366
          clear HB
          have HO352 := n0_
          have HO355 := n1_
          have HO358 := n2_
          have HO362 := n3_
          have HO365 := n4_
          have HO369 := n5_
          have HO374 := n6_
          have HO377 := n7_
          have BK347 := n8_
          have BK366 := n9_
          have HB := n10_
          clear n0_ n1_ n2_ n3_ n4_ n5_ n6_ n7_ n8_ n9_ n10_
          (try clear hb)
          (try clear hb2)
          (try clear hk)
          (try clear hi)
          refine hK.out _ _ ⟨(blk_cell BK366.out 0).trans rfl, (blk_cell BK366.out 1).trans rfl, (blk_cell BK366.out 2).trans rfl, (blk_cell BK347.out 0).trans rfl, (blk_cell BK347.out 1).trans rfl, (blk_cell BK347.out 2).trans rfl⟩ (fun hHeld => ?_)
          clear hK K
          refine norm_ (a' := ?_) ?_ ?_
          rotate_left
          · show Act.put _ (some 37) _ = _
            simp only [Act.put, List.setIfInBounds_toArray, List.set_cons_zero, List.set_cons_succ, i64_w, i32_w]
            rfl
          refine pure_ (i := 4) (N := some 38) (v := ?_) (a' := ?_) #[true, true, true, true, true] rfl rfl (by kernel_rfl) (fun _ _ _ h => h) (Or.inl ⟨by rfl, ?_⟩) ?_ ?_
          rotate_left
          · intro w'
            go_simp
            with_reducible rfl
          rotate_left
          · simp only [Act.put, List.setIfInBounds_toArray, List.set_cons_zero, List.set_cons_succ, i64_w, i32_w]
            rfl
          refine done_ (by kernel_rfl) ?_
          have hcz44_0 : w43.cell? ⟨gb366, 0, none⟩ = some (.int .i64 t359) := (blk_cell BK366.out 0).trans rfl
          have hcz44_1 : w43.cell? ⟨gb366, 1, none⟩ = some (.slice Ao34 t360.length co34) := (blk_cell BK366.out 1).trans rfl
          have hcz44_2 : w43.cell? ⟨gb366, 2, none⟩ = some (.slice Ao35 t363.length co35) := (blk_cell BK366.out 2).trans rfl
          have hfz44_0 := blk_frozen BK366.out 0
          have hfz44_1 := blk_frozen BK366.out 1
          have hfz44_2 := blk_frozen BK366.out 2
          go_upto_region 16 with (first | ((with_reducible refine gate_callee (f := 24) rfl ?_); refine goesL_ (some 41) rfl rfl Try.func24 (by kernel_rfl) rfl #[.agg #[.int .i64 t359, .slice Ao34 t360.length co34, .slice Ao35 t363.length co35], .int .i64 1] rfl (by (try simp only [List.map_toArray, List.map_cons, List.map_nil]); first | done | rfl | (simp only [List.length_drop, List.length_take]; rfl)) ?_; (with_reducible refine (laws_markPlanes.calls k t359 (fun k_ => some k_ = (.slice Ao34 t360.length co34 : Value).ownBlock) (.slice Ao34 t360.length co34) t360 (fun k_ => some k_ = (.slice Ao35 t363.length co35 : Value).ownBlock) (.slice Ao35 t363.length co35) t363 1 t379 t380 t381 w _ ?side1 ?side2 ?side3 ?side4 ?side5 A19.out).mono ?_); (case side1 => repeat (first | (with_reducible first | exact HB.out | apply below_alloc | apply pw_below_drewN | apply below_drew1 | refine below_set ?_ GE347.out | refine below_set ?_ GE366.out) | exact HB.out)); (case side2 => exact Kd.R_tight rfl HO362.out); (case side3 => exact fun k_ e_ => by (have h_ := HO362.out.1 k_ e_.symm; first | exact h_.1.1.1.1 | (simp only [h_, ne_eq, not_false_eq_true, and_self, and_true, true_and, implies_true]; done) | (simp [h_]; done))); (case side4 => exact Kd.R_tight rfl HO365.out); (case side5 => exact fun k_ e_ => by (have h_ := HO365.out.1 k_ e_.symm; first | exact h_.1.1.1.1 | (simp only [h_, ne_eq, not_false_eq_true, and_self, and_true, true_and, implies_true]; done) | (simp [h_]; done))); rintro e w45 ⟨rfl, hy0, hy1, hb, hkp⟩; refine ⟨_, rfl, ?_⟩; have n0_ := Aside0.mk (blk_kept (by (with_reducible repeat (first | refine blk_drewN ?_ _ | refine blk_drew ?_ | refine blk_alloc ?_ _)); exact BK347.out) hkp (fun hs_ => Or.elim hs_ (fun e_ => (fun e_ => (Kd.R_ne HO362.out BK347.out (by decide)) e_) e_) (fun e_ => (fun e_ => (Kd.R_ne HO365.out BK347.out (by decide)) e_) e_))); have n1_ := Aside0.mk (Kd.R_mono (ok' := fun k_ => some k_ ≠ (.slice Ao27 t353.length co27 : Value).ownBlock ∧ some k_ ≠ (.slice Ao34 t360.length co34 : Value).ownBlock ∧ some k_ ≠ (.slice Ao35 t363.length co35 : Value).ownBlock ∧ some k_ ≠ (.slice Ao41 t372.length co41 : Value).ownBlock ∧ some k_ ≠ (.slice Ao42 t375.length co42 : Value).ownBlock) (Kd.R_keptB (HO352.out) hkp (fun k_ hk_ hs_ => Or.elim hs_ (fun e_ => by first | exact (hk_.1.1.1.2) e_ | exact absurd e_ (by first | (simp only [hk_, ne_eq, not_false_eq_true, and_self, and_true, true_and, implies_true]; done) | (simp [hk_]; done))) (fun e_ => by first | exact (hk_.1.1.2) e_ | exact absurd e_ (by first | (simp only [hk_, ne_eq, not_false_eq_true, and_self, and_true, true_and, implies_true]; done) | (simp [hk_]; done))))) (fun k_ hk_ => by first | exact ⟨hk_.1.1.1.1.1, hk_.1.1.1.1.2, hk_.1.1.1.2, hk_.1.1.2, hk_.1.2⟩ | (simp only [hk_, ne_eq, not_false_eq_true, and_self, and_true, true_and, implies_true]; done) | (simp [hk_]; done))); have n2_ := Aside0.mk (Kd.R_mono (ok' := fun k_ => some k_ ≠ (.slice Ao26 t350.length co26 : Value).ownBlock ∧ some k_ ≠ (.slice Ao34 t360.length co34 : Value).ownBlock ∧ some k_ ≠ (.slice Ao35 t363.length co35 : Value).ownBlock ∧ some k_ ≠ (.slice Ao41 t372.length co41 : Value).ownBlock ∧ some k_ ≠ (.slice Ao42 t375.length co42 : Value).ownBlock) (Kd.R_keptB (HO355.out) hkp (fun k_ hk_ hs_ => Or.elim hs_ (fun e_ => by first | exact (hk_.1.1.1.2) e_ | exact absurd e_ (by first | (simp only [hk_, ne_eq, not_false_eq_true, and_self, and_true, true_and, implies_true]; done) | (simp [hk_]; done))) (fun e_ => by first | exact (hk_.1.1.2) e_ | exact absurd e_ (by first | (simp only [hk_, ne_eq, not_false_eq_true, and_self, and_true, true_and, implies_true]; done) | (simp [hk_]; done))))) (fun k_ hk_ => by first | exact ⟨hk_.1.1.1.1.1, hk_.1.1.1.1.2, hk_.1.1.1.2, hk_.1.1.2, hk_.1.2⟩ | (simp only [hk_, ne_eq, not_false_eq_true, and_self, and_true, true_and, implies_true]; done) | (simp [hk_]; done))); have n3_ := Aside0.mk (Kd.R_mono (ok' := fun k_ => some k_ ≠ (.slice Ao37 t367.length co37 : Value).ownBlock) (Kd.R_keptB ((Kd.R_apart' (Kd.R_apart' HO358.out (Kd.R_typed HO362.out) (by decide)) (Kd.R_typed HO365.out) (by decide))) hkp (fun k_ hk_ hs_ => Or.elim hs_ (fun e_ => by first | exact (hk_.1.2) e_ | exact absurd e_ (by first | (simp only [hk_, ne_eq, not_false_eq_true, and_self, and_true, true_and, implies_true]; done) | (simp [hk_]; done))) (fun e_ => by first | exact (hk_.2) e_ | exact absurd e_ (by first | (simp only [hk_, ne_eq, not_false_eq_true, and_self, and_true, true_and, implies_true]; done) | (simp [hk_]; done))))) (fun k_ hk_ => by first | exact hk_.1.1.1.2 | (simp only [hk_, ne_eq, not_false_eq_true, and_self, and_true, true_and, implies_true]; done) | (simp [hk_]; done))); have n4_ := Aside0.mk (Kd.R_reok rfl hy0 (fun k_ e_ => HO362.out.1 k_ e_)); have n5_ := Aside0.mk (Kd.R_reok rfl hy1 (fun k_ e_ => HO365.out.1 k_ e_)); have n6_ := Aside0.mk (blk_kept (by (with_reducible repeat (first | refine blk_drewN ?_ _ | refine blk_drew ?_ | refine blk_alloc ?_ _)); exact BK366.out) hkp (fun hs_ => Or.elim hs_ (fun e_ => (fun e_ => (Kd.R_ne HO362.out BK366.out (by decide)) e_) e_) (fun e_ => (fun e_ => (Kd.R_ne HO365.out BK366.out (by decide)) e_) e_))); have n7_ := Aside0.mk (Kd.R_mono (ok' := fun k_ => some k_ ≠ (.slice Ao38 t356.length co38 : Value).ownBlock) (Kd.R_keptB ((Kd.R_apart' (Kd.R_apart' HO369.out (Kd.R_typed HO362.out) (by decide)) (Kd.R_typed HO365.out) (by decide))) hkp (fun k_ hk_ hs_ => Or.elim hs_ (fun e_ => by first | exact (hk_.1.2) e_ | exact absurd e_ (by first | (simp only [hk_, ne_eq, not_false_eq_true, and_self, and_true, true_and, implies_true]; done) | (simp [hk_]; done))) (fun e_ => by first | exact (hk_.2) e_ | exact absurd e_ (by first | (simp only [hk_, ne_eq, not_false_eq_true, and_self, and_true, true_and, implies_true]; done) | (simp [hk_]; done))))) (fun k_ hk_ => by first | exact hk_.1.1.1.2 | (simp only [hk_, ne_eq, not_false_eq_true, and_self, and_true, true_and, implies_true]; done) | (simp [hk_]; done))); have n8_ := Aside0.mk (Kd.R_mono (ok' := fun k_ => some k_ ≠ (.slice Ao26 t350.length co26 : Value).ownBlock ∧ some k_ ≠ (.slice Ao27 t353.length co27 : Value).ownBlock ∧ some k_ ≠ (.slice Ao34 t360.length co34 : Value).ownBlock ∧ some k_ ≠ (.slice Ao35 t363.length co35 : Value).ownBlock ∧ some k_ ≠ (.slice Ao42 t375.length co42 : Value).ownBlock) (Kd.R_keptB (HO374.out) hkp (fun k_ hk_ hs_ => Or.elim hs_ (fun e_ => by first | exact (hk_.1.2) e_ | exact absurd e_ (by first | (simp only [hk_, ne_eq, not_false_eq_true, and_self, and_true, true_and, implies_true]; done) | (simp [hk_]; done))) (fun e_ => by first | exact (hk_.2) e_ | exact absurd e_ (by first | (simp only [hk_, ne_eq, not_false_eq_true, and_self, and_true, true_and, implies_true]; done) | (simp [hk_]; done))))) (fun k_ hk_ => by first | exact ⟨hk_.1.1.1.1.2, hk_.1.1.1.2, hk_.1.1.2, hk_.1.2, hk_.1.1.1.1.1⟩ | (simp only [hk_, ne_eq, not_false_eq_true, and_self, and_true, true_and, implies_true]; done) | (simp [hk_]; done))); have n9_ := Aside0.mk (Kd.R_mono (ok' := fun k_ => some k_ ≠ (.slice Ao26 t350.length co26 : Value).ownBlock ∧ some k_ ≠ (.slice Ao27 t353.length co27 : Value).ownBlock ∧ some k_ ≠ (.slice Ao34 t360.length co34 : Value).ownBlock ∧ some k_ ≠ (.slice Ao35 t363.length co35 : Value).ownBlock ∧ some k_ ≠ (.slice Ao41 t372.length co41 : Value).ownBlock) (Kd.R_keptB (HO377.out) hkp (fun k_ hk_ hs_ => Or.elim hs_ (fun e_ => by first | exact (hk_.1.2) e_ | exact absurd e_ (by first | (simp only [hk_, ne_eq, not_false_eq_true, and_self, and_true, true_and, implies_true]; done) | (simp [hk_]; done))) (fun e_ => by first | exact (hk_.2) e_ | exact absurd e_ (by first | (simp only [hk_, ne_eq, not_false_eq_true, and_self, and_true, true_and, implies_true]; done) | (simp [hk_]; done))))) (fun k_ hk_ => by first | exact ⟨hk_.1.1.1.1.2, hk_.1.1.1.2, hk_.1.1.2, hk_.1.2, hk_.1.1.1.1.1⟩ | (simp only [hk_, ne_eq, not_false_eq_true, and_self, and_true, true_and, implies_true]; done) | (simp [hk_]; done))); have n10_ := Aside0.mk (hb); clear BK347; clear HO352; clear HO355; clear HO358; clear HO362; clear HO365; clear BK366; clear HO369; clear HO374; clear HO377; clear HB; have BK347 := n0_; have HO352 := n1_; have HO355 := n2_; have HO358 := n3_; have HO362 := n4_; have HO365 := n5_; have BK366 := n6_; have HO369 := n7_; have HO374 := n8_; have HO377 := n9_; have HB := n10_; clear n0_ n1_ n2_ n3_ n4_ n5_ n6_ n7_ n8_ n9_ n10_; (try clear hb); (try clear hkp); (try clear hy0); (try clear hy1)))
          (try simp only [Act.put, List.setIfInBounds_toArray, List.set_cons_zero, List.set_cons_succ])
          go_cut [49] (fun v49 wc => ∃ (kq : Nat) (x49_19 : Bool), v49 = .bool x49_19 ∧ Aside0 (laws_FnExactBatchCapped.j0 kq a0 t356 t367 x49_19 a1_0 l1_1 l1_2 = some r) ∧ Aside0 (kq ≤ k) ∧ Aside0 (Kd.R (Kd.int .i64) 3 wc w.heap.size (fun k_ => some k_ ≠ ((.slice Ao37 t367.length co37) : Value).ownBlock) (.slice Ao38 t356.length co38) t356) ∧ Aside0 (Kd.R (Kd.int .i64) 3 wc w.heap.size (fun k_ => some k_ ≠ ((.slice Ao38 t356.length co38) : Value).ownBlock) (.slice Ao37 t367.length co37) t367) ∧ Aside0 (Kd.R (Kd.int .u64) 30 wc w.heap.size (fun k_ => some k_ ≠ ((.slice Ao35 t363.length co35) : Value).ownBlock) (.slice Ao34 t360.length co34) t380) ∧ Aside0 (Kd.R (Kd.int .u64) 30 wc w.heap.size (fun k_ => some k_ ≠ ((.slice Ao34 t360.length co34) : Value).ownBlock) (.slice Ao35 t363.length co35) t381) ∧ Aside0 (wc.heap[gb347]? = some (.cells #[.int .i64 a1_0, (.slice A1_1 l1_1.length c1_1), (.slice A1_2 l1_2.length c1_2)] 45 (0, 0))) ∧ Aside0 (wc.heap[gb366]? = some (.cells #[.int .i64 t359, (.slice Ao34 t360.length co34), (.slice Ao35 t363.length co35)] 37 (0, 0))) ∧ Aside0 (Below w.heap.size w wc))
          case first =>
            have H := HC20.out
            clear HC20
            by_cases c46 : t379 < 0
            · rw [if_pos c46] at H
              have c46b0 : decide (t379 < 0) = true := decide_eq_true c46
              clear c46
              (first | rw [c46b0] | (simp only [i64_w, i32_w]; rw [c46b0]) | skip)
              have H' := Aside0.mk H
              clear H
              go_wp2
              go_meet
              case rel => exact ⟨_, (true), (by first | rfl | (simp; done) | (simp [*]; done)), H', ⟨by first | omega | exact Nat.le_refl _⟩, ⟨by (with_reducible repeat (first | apply Kd.R_alloc | apply Kd.R_drewN | apply Kd.R_drew)); exact HO358.out⟩, ⟨by (with_reducible repeat (first | apply Kd.R_alloc | apply Kd.R_drewN | apply Kd.R_drew)); exact HO369.out⟩, ⟨by (with_reducible repeat (first | apply Kd.R_alloc | apply Kd.R_drewN | apply Kd.R_drew)); exact Kd.R_mono HO362.out (fun _ hk => by first | exact hk.1.1.1.1 | trivial | (simp only [hk, ne_eq, not_false_eq_true, and_self, and_true, true_and, implies_true]; done) | (simp [hk]; done))⟩, ⟨by (with_reducible repeat (first | apply Kd.R_alloc | apply Kd.R_drewN | apply Kd.R_drew)); exact Kd.R_mono HO365.out (fun _ hk => by first | exact hk.1.1.1.1 | trivial | (simp only [hk, ne_eq, not_false_eq_true, and_self, and_true, true_and, implies_true]; done) | (simp [hk]; done))⟩, ⟨by (with_reducible repeat (first | refine blk_drewN ?_ _ | refine blk_drew ?_ | refine blk_alloc ?_ _)); exact BK347.out⟩, ⟨by (with_reducible repeat (first | refine blk_drewN ?_ _ | refine blk_drew ?_ | refine blk_alloc ?_ _)); exact BK366.out⟩, ⟨by repeat (first | (with_reducible first | exact HB.out | apply below_alloc | apply pw_below_drewN | apply below_drew1 | refine below_set ?_ GE347.out | refine below_set ?_ GE366.out) | exact HB.out)⟩⟩
            · rw [if_neg c46] at H
              have c46b0 : decide (t379 < 0) = false := decide_eq_false c46
              clear c46
              (first | rw [c46b0] | (simp only [i64_w, i32_w]; rw [c46b0]) | skip)
              replace H := Option.bind_eq_some_iff.mp H
              obtain ⟨t382, A470, H⟩ := H
              replace H : (laws_FnExactBatchCapped.j0 k a0 t356 t367 (!t382) a1_0 l1_1 l1_2) = some r := H
              have A47 := Aside0.mk A470
              clear A470
              have H' := Aside0.mk H
              clear H
              go_wp2_with (first | (go_at_call 35; (with_reducible refine (laws_eqIntS.calls k _ _ t367 _ _ t356 t382 _ ?side1 ?side2 ?side3 ?side4 A47.out).mono ?_); (case side1 => repeat (first | exact (Kd.R_reads' HO369.out).2.2 | (with_reducible refine Kd.C_alloc ?_ _) | (with_reducible refine Kd.C_drewN ?_ _) | (with_reducible refine Kd.C_drew ?_))); (case side2 => exact (Kd.R_reads' HO369.out).2.1); (case side3 => repeat (first | exact (Kd.R_reads' HO358.out).2.2 | (with_reducible refine Kd.C_alloc ?_ _) | (with_reducible refine Kd.C_drewN ?_ _) | (with_reducible refine Kd.C_drew ?_))); (case side4 => exact (Kd.R_reads' HO358.out).2.1); rintro e w' ⟨rfl, ⟨nd, rfl⟩⟩))
              go_meet
              case rel => exact ⟨_, (!t382), (by first | rfl | (simp; done) | (simp [*]; done)), H', ⟨by first | omega | exact Nat.le_refl _⟩, ⟨by (with_reducible repeat (first | apply Kd.R_alloc | apply Kd.R_drewN | apply Kd.R_drew)); exact HO358.out⟩, ⟨by (with_reducible repeat (first | apply Kd.R_alloc | apply Kd.R_drewN | apply Kd.R_drew)); exact HO369.out⟩, ⟨by (with_reducible repeat (first | apply Kd.R_alloc | apply Kd.R_drewN | apply Kd.R_drew)); exact Kd.R_mono HO362.out (fun _ hk => by first | exact hk.1.1.1.1 | trivial | (simp only [hk, ne_eq, not_false_eq_true, and_self, and_true, true_and, implies_true]; done) | (simp [hk]; done))⟩, ⟨by (with_reducible repeat (first | apply Kd.R_alloc | apply Kd.R_drewN | apply Kd.R_drew)); exact Kd.R_mono HO365.out (fun _ hk => by first | exact hk.1.1.1.1 | trivial | (simp only [hk, ne_eq, not_false_eq_true, and_self, and_true, true_and, implies_true]; done) | (simp [hk]; done))⟩, ⟨by (with_reducible repeat (first | refine blk_drewN ?_ _ | refine blk_drew ?_ | refine blk_alloc ?_ _)); exact BK347.out⟩, ⟨by (with_reducible repeat (first | refine blk_drewN ?_ _ | refine blk_drew ?_ | refine blk_alloc ?_ _)); exact BK366.out⟩, ⟨by repeat (first | (with_reducible first | exact HB.out | apply below_alloc | apply pw_below_drewN | apply below_drew1 | refine below_set ?_ GE347.out | refine below_set ?_ GE366.out) | exact HB.out)⟩⟩
          case rest =>
            clear HC20
            try clear c1
            try clear c2
            try clear p2
            try clear c3
            try clear c3b0
            try clear c3b1
            try clear c4
            try clear c6
            try clear c6b0
            try clear c7
            try clear c15
            try clear c18
            try clear c21
            try clear c24
            try clear c26
            try clear c28
            try clear c32
            try clear c33
            try clear c34
            try clear c35
            try clear c46
            try clear c46b0
            try clear hcz22_0
            try clear hcz22_1
            try clear hcz22_2
            try clear hcz24_0
            try clear hcz24_1
            try clear hcz24_2
            try clear hcz29_0
            try clear hcz29_1
            try clear hcz29_2
            try clear hcz33_0
            try clear hcz33_1
            try clear hcz33_2
            try clear hcz44_0
            try clear hcz44_1
            try clear hcz44_2
            try clear hcz8_0
            try clear hcz8_1
            try clear hcz8_2
            try clear hfz22_0
            try clear hfz22_1
            try clear hfz22_2
            try clear hfz24_0
            try clear hfz24_1
            try clear hfz24_2
            try clear hfz29_0
            try clear hfz29_1
            try clear hfz29_2
            try clear hfz33_0
            try clear hfz33_1
            try clear hfz33_2
            try clear hfz44_0
            try clear hfz44_1
            try clear hfz44_2
            try clear hfz8_0
            try clear hfz8_1
            try clear hfz8_2
            obtain ⟨kq, x49_19, rfl, HA, HJ19, HO_6, HO_8, HO_367001, HO_367002, BK347, BK366, HB⟩ := hcut
            have hl367001_19 := (Kd.R_reads' HO_367001.out).1
            rw [hl367001_19] at HO_367001
            (try simp only [hl367001_19])
            (try simp only [hl367001_19] at BK347)
            (try simp only [hl367001_19] at BK366)
            (try simp only [hl367001_19] at HO_6)
            (try simp only [hl367001_19] at HO_8)
            (try simp only [hl367001_19] at HO_367002)
            have hl367002_19 := (Kd.R_reads' HO_367002.out).1
            rw [hl367002_19] at HO_367002
            (try simp only [hl367002_19])
            (try simp only [hl367002_19] at BK347)
            (try simp only [hl367002_19] at BK366)
            (try simp only [hl367002_19] at HO_6)
            (try simp only [hl367002_19] at HO_8)
            (try simp only [hl367002_19] at HO_367001)
            cases kq with
            | zero => exact absurd HA.out (by simp [laws_FnExactBatchCapped.j0])
            | succ kj19 =>
              have H := HA.out
              clear HA
              simp only [laws_FnExactBatchCapped.j0] at H
              by_cases c48 : x49_19 = true
              · subst c48
                have H1 : (some false) = some r := by rw [if_pos rfl] at H; exact H
                clear H
                have H := H1
                clear H1
                exact absurd ((Option.some.inj H).trans HTRUE_.out) (by decide)
              · replace c48 := Bool.eq_false_iff.mpr c48
                subst c48
                have H1 : ((laws_markIntS.f kj19 t367 1).bind fun bt383 => ((laws_heldIntS.f kj19 bt383.2 1).bind fun t385 => (if t385 < 0 then (some false) else (if t385 = bt383.1 then ((laws_toPlanes.f kj19 a1_0 l1_1 l1_2).bind fun bt386 => ((impl_BatchCapped.f kj19 a0 bt386.1 bt386.2.1 bt386.2.2).bind fun t393 => ((laws_eqIntS.f kj19 t393 t356).bind fun t396 => (if t396 = true then ((laws_heldIntS.f kj19 bt383.2 1).bind fun t397 => (if t397 < 0 then (some false) else (if t397 = bt383.1 then (some true) else (some false)))) else (some false))))) else (some false))))) = some r := by rw [if_neg (show ¬ (false = true) by decide)] at H; exact H
                clear H
                have H := H1
                clear H1
                replace H := Option.bind_eq_some_iff.mp H
                obtain ⟨⟨t383, t384⟩, A490, H⟩ := H
                replace H : ((laws_heldIntS.f kj19 t384 1).bind fun t385 => (if t385 < 0 then (some false) else (if t385 = t383 then ((laws_toPlanes.f kj19 a1_0 l1_1 l1_2).bind fun bt386 => ((impl_BatchCapped.f kj19 a0 bt386.1 bt386.2.1 bt386.2.2).bind fun t393 => ((laws_eqIntS.f kj19 t393 t356).bind fun t396 => (if t396 = true then ((laws_heldIntS.f kj19 t384 1).bind fun t397 => (if t397 < 0 then (some false) else (if t397 = t383 then (some true) else (some false)))) else (some false))))) else (some false)))) = some r := H
                have A49 := Aside0.mk A490
                clear A490
                replace H := Option.bind_eq_some_iff.mp H
                obtain ⟨t385, A500, H⟩ := H
                replace H : (if t385 < 0 then (some false) else (if t385 = t383 then ((laws_toPlanes.f kj19 a1_0 l1_1 l1_2).bind fun bt386 => ((impl_BatchCapped.f kj19 a0 bt386.1 bt386.2.1 bt386.2.2).bind fun t393 => ((laws_eqIntS.f kj19 t393 t356).bind fun t396 => (if t396 = true then ((laws_heldIntS.f kj19 t384 1).bind fun t397 => (if t397 < 0 then (some false) else (if t397 = t383 then (some true) else (some false)))) else (some false))))) else (some false))) = some r := H
                have A50 := Aside0.mk A500
                clear A500
                by_cases c51 : t385 < 0
                · rw [if_pos c51] at H
                  have c51b0 : decide (t385 < 0) = true := decide_eq_true c51
                  clear c51
                  exact absurd ((Option.some.inj H).trans HTRUE_.out) (by decide)
                · rw [if_neg c51] at H
                  have c51b0 : decide (t385 < 0) = false := decide_eq_false c51
                  clear c51
                  by_cases c52 : t385 = t383
                  · rw [if_pos c52] at H
                    have c52b0 : (t385 == t383) = true := beq_iff_eq.mpr c52
                    have c52b1 : (t385 != t383) = false := bne_eq_false_iff_eq.mpr c52
                    clear c52
                    replace H := Option.bind_eq_some_iff.mp H
                    obtain ⟨⟨t386, t387, t390⟩, A530, H⟩ := H
                    replace H : ((impl_BatchCapped.f kj19 a0 t386 t387 t390).bind fun t393 => ((laws_eqIntS.f kj19 t393 t356).bind fun t396 => (if t396 = true then ((laws_heldIntS.f kj19 t384 1).bind fun t397 => (if t397 < 0 then (some false) else (if t397 = t383 then (some true) else (some false)))) else (some false)))) = some r := H
                    have A53 := Aside0.mk A530
                    clear A530
                    replace H := Option.bind_eq_some_iff.mp H
                    obtain ⟨t393, A540, H⟩ := H
                    replace H : ((laws_eqIntS.f kj19 t393 t356).bind fun t396 => (if t396 = true then ((laws_heldIntS.f kj19 t384 1).bind fun t397 => (if t397 < 0 then (some false) else (if t397 = t383 then (some true) else (some false)))) else (some false))) = some r := H
                    have A54 := Aside0.mk A540
                    clear A540
                    replace H := Option.bind_eq_some_iff.mp H
                    obtain ⟨t396, A550, H⟩ := H
                    replace H : (if t396 = true then ((laws_heldIntS.f kj19 t384 1).bind fun t397 => (if t397 < 0 then (some false) else (if t397 = t383 then (some true) else (some false)))) else (some false)) = some r := H
                    have A55 := Aside0.mk A550
                    clear A550
                    by_cases c56 : t396 = true
                    · subst c56
                      have H1 : ((laws_heldIntS.f kj19 t384 1).bind fun t397 => (if t397 < 0 then (some false) else (if t397 = t383 then (some true) else (some false)))) = some r := by rw [if_pos rfl] at H; exact H
                      clear H
                      have H := H1
                      clear H1
                      replace H := Option.bind_eq_some_iff.mp H
                      obtain ⟨t397, A570, H⟩ := H
                      replace H : (if t397 < 0 then (some false) else (if t397 = t383 then (some true) else (some false))) = some r := H
                      have A57 := Aside0.mk A570
                      clear A570
                      by_cases c58 : t397 < 0
                      · rw [if_pos c58] at H
                        have c58b0 : decide (t397 < 0) = true := decide_eq_true c58
                        clear c58
                        exact absurd ((Option.some.inj H).trans HTRUE_.out) (by decide)
                      · rw [if_neg c58] at H
                        have c58b0 : decide (t397 < 0) = false := decide_eq_false c58
                        clear c58
                        by_cases c59 : t397 = t383
                        · rw [if_pos c59] at H
                          have c59b0 : (t397 == t383) = true := beq_iff_eq.mpr c59
                          have c59b1 : (t397 != t383) = false := bne_eq_false_iff_eq.mpr c59
                          clear c59
                          obtain rfl := Option.some.inj H
                          go_wp2_with (first | ((with_reducible refine gate_callee (f := 36) rfl ?_); refine goesL_ (some 52) rfl rfl Try.func36 (by kernel_rfl) rfl #[.slice Ao37 t367.length co37, .int .i64 1] rfl (by (try simp only [List.map_toArray, List.map_cons, List.map_nil]); first | done | rfl | (simp only [List.length_drop, List.length_take]; rfl)) ?_; (with_reducible refine (laws_markIntS.calls kj19 (fun k_ => some k_ = (.slice Ao37 t367.length co37 : Value).ownBlock) (.slice Ao37 t367.length co37) t367 1 t383 t384 w _ ?side1 ?side2 A49.out).mono ?_); (case side1 => repeat (first | (with_reducible first | exact HB.out | apply below_alloc | apply pw_below_drewN | apply below_drew1 | refine below_set ?_ GE347.out | refine below_set ?_ GE366.out) | exact HB.out)); (case side2 => exact Kd.R_tight rfl HO_8.out); rintro e w60 ⟨rfl, hy0, hb, hkp⟩; refine ⟨_, rfl, ?_⟩; have n0_ := Aside0.mk (Kd.R_mono (ok' := fun k_ => some k_ ≠ (.slice Ao37 t367.length co37 : Value).ownBlock) (Kd.R_keptB (HO_6.out) hkp (fun k_ hk_ hs_ => (hk_) hs_)) (fun k_ hk_ => by first | exact hk_.1 | (simp only [hk_, ne_eq, not_false_eq_true, and_self, and_true, true_and, implies_true]; done) | (simp [hk_]; done))); have n1_ := Aside0.mk (Kd.R_reok rfl hy0 (fun k_ e_ => HO_8.out.1 k_ e_)); have n2_ := Aside0.mk (Kd.R_mono (ok' := fun k_ => some k_ ≠ (.slice Ao35 t381.length co35 : Value).ownBlock) (Kd.R_keptB ((Kd.R_apart' HO_367001.out (Kd.R_typed HO_8.out) (by decide))) hkp (fun k_ hk_ hs_ => by first | exact (hk_.2) hs_ | exact absurd hs_ (by first | (simp only [hk_, ne_eq, not_false_eq_true, and_self, and_true, true_and, implies_true]; done) | (simp [hk_]; done)))) (fun k_ hk_ => by first | exact hk_.1.1 | (simp only [hk_, ne_eq, not_false_eq_true, and_self, and_true, true_and, implies_true]; done) | (simp [hk_]; done))); have n3_ := Aside0.mk (Kd.R_mono (ok' := fun k_ => some k_ ≠ (.slice Ao34 t380.length co34 : Value).ownBlock) (Kd.R_keptB ((Kd.R_apart' HO_367002.out (Kd.R_typed HO_8.out) (by decide))) hkp (fun k_ hk_ hs_ => by first | exact (hk_.2) hs_ | exact absurd hs_ (by first | (simp only [hk_, ne_eq, not_false_eq_true, and_self, and_true, true_and, implies_true]; done) | (simp [hk_]; done)))) (fun k_ hk_ => by first | exact hk_.1.1 | (simp only [hk_, ne_eq, not_false_eq_true, and_self, and_true, true_and, implies_true]; done) | (simp [hk_]; done))); have n4_ := Aside0.mk (blk_kept (by (with_reducible repeat (first | refine blk_drewN ?_ _ | refine blk_drew ?_ | refine blk_alloc ?_ _)); exact BK347.out) hkp (fun hs_ => (fun e_ => (Kd.R_ne HO_8.out BK347.out (by decide)) e_) hs_)); have n5_ := Aside0.mk (blk_kept (by (with_reducible repeat (first | refine blk_drewN ?_ _ | refine blk_drew ?_ | refine blk_alloc ?_ _)); exact BK366.out) hkp (fun hs_ => (fun e_ => (Kd.R_ne HO_8.out BK366.out (by decide)) e_) hs_)); have n6_ := Aside0.mk (hb); clear HO_6; clear HO_8; clear HO_367001; clear HO_367002; clear BK347; clear BK366; clear HB; have HO_6 := n0_; have HO_8 := n1_; have HO_367001 := n2_; have HO_367002 := n3_; have BK347 := n4_; have BK366 := n5_; have HB := n6_; clear n0_ n1_ n2_ n3_ n4_ n5_ n6_; (try clear hb); (try clear hkp); (try clear hy0)) | ((with_reducible refine gate_callee (f := 37) rfl ?_); refine goesL_ (some 55) rfl rfl Try.func37 (by kernel_rfl) rfl #[.slice Ao37 t384.length co37, .int .i64 1] rfl (by (try simp only [List.map_toArray, List.map_cons, List.map_nil]); first | done | (rw [show t384.length = t367.length from (Kd.R_reads' HO_8.out).1.symm] <;> rfl) | rfl | (simp only [List.length_drop, List.length_take]; rfl)) ?_; (with_reducible refine (laws_heldIntS.calls kj19 _ _ t384 1 t385 _ ?side1 ?side2 A50.out).mono ?_); (case side1 => repeat (first | exact (Kd.R_reads' HO_8.out).2.2 | (with_reducible refine Kd.C_alloc ?_ _) | (with_reducible refine Kd.C_drewN ?_ _) | (with_reducible refine Kd.C_drew ?_))); (case side2 => rw [show t384.length = t367.length from (Kd.R_reads' HO_8.out).1.symm]; exact (Kd.R_reads' HO_8.out).2.1); rintro e w' ⟨rfl, ⟨nd, rfl⟩⟩; refine ⟨_, rfl, ?_⟩; have hnb61 := NB347_366.out; have hnc61 := NB366_347.out; have hcz62_0 : w60.cell? ⟨gb347, 0, none⟩ = some (.int .i64 a1_0) := (blk_cell BK347.out 0).trans rfl; have hcz62_1 : w60.cell? ⟨gb347, 1, none⟩ = some (.slice A1_1 l1_1.length c1_1) := (blk_cell BK347.out 1).trans rfl; have hcz62_2 : w60.cell? ⟨gb347, 2, none⟩ = some (.slice A1_2 l1_2.length c1_2) := (blk_cell BK347.out 2).trans rfl; have hfz62_0 := blk_frozen BK347.out 0; have hfz62_1 := blk_frozen BK347.out 1; have hfz62_2 := blk_frozen BK347.out 2) | ((with_reducible refine gate_callee (f := 28) rfl ?_); refine goesL_ (some 63) rfl rfl Try.func28 (by kernel_rfl) rfl #[.agg #[.int .i64 a1_0, .slice A1_1 l1_1.length c1_1, .slice A1_2 l1_2.length c1_2]] rfl (by (try simp only [List.map_toArray, List.map_cons, List.map_nil]); first | done | rfl | (simp only [List.length_drop, List.length_take]; rfl)) ?_; (with_reducible refine (laws_toPlanes.calls kj19 a1_0 _ _ l1_1 _ _ l1_2 t386 t387 t390 _ ?side1 ?side2 ?side3 ?side4 A53.out).mono ?_); (case side1 => repeat (first | exact (Kd.C_below HR1_1.out (by repeat (first | (with_reducible first | exact HB.out | apply below_alloc | apply pw_below_drewN | apply below_drew1 | refine below_set ?_ GE347.out | refine below_set ?_ GE366.out) | exact HB.out))) | (with_reducible refine Kd.C_alloc ?_ _) | (with_reducible refine Kd.C_drewN ?_ _) | (with_reducible refine Kd.C_drew ?_))); (case side2 => exact HC1_1.out); (case side3 => repeat (first | exact (Kd.C_below HR1_2.out (by repeat (first | (with_reducible first | exact HB.out | apply below_alloc | apply pw_below_drewN | apply below_drew1 | refine below_set ?_ GE347.out | refine below_set ?_ GE366.out) | exact HB.out))) | (with_reducible refine Kd.C_alloc ?_ _) | (with_reducible refine Kd.C_drewN ?_ _) | (with_reducible refine Kd.C_drew ?_))); (case side4 => exact HC1_2.out); rintro e w63 ⟨v388, v391, rfl, ho0, ho1, hb⟩; refine ⟨_, rfl, ?_⟩; have n0_ := Aside0.mk (Kd.R_below (by (with_reducible repeat (first | apply Kd.R_alloc | apply Kd.R_drewN | apply Kd.R_drew)); exact HO_6.out) hb); have n1_ := Aside0.mk (Kd.R_below (by (with_reducible repeat (first | apply Kd.R_alloc | apply Kd.R_drewN | apply Kd.R_drew)); exact HO_8.out) hb); have n2_ := Aside0.mk (Kd.R_mono (Kd.R_told (Kd.R_told (Kd.R_old (by (with_reducible repeat (first | apply Kd.R_alloc | apply Kd.R_drewN | apply Kd.R_drew)); exact HO_367001.out) hb) (Kd.R_base ho0)) (Kd.R_base ho1)) (fun _ h_ => h_.1)); have n3_ := Aside0.mk (Kd.R_mono (Kd.R_told (Kd.R_told (Kd.R_old (by (with_reducible repeat (first | apply Kd.R_alloc | apply Kd.R_drewN | apply Kd.R_drew)); exact HO_367002.out) hb) (Kd.R_base ho0)) (Kd.R_base ho1)) (fun _ h_ => h_.1)); have n4_ := Aside0.mk (Kd.R_lower (Kd.R_new' (Kd.R_new' ho0 (Kd.R_lt (by (with_reducible repeat (first | apply Kd.R_alloc | apply Kd.R_drewN | apply Kd.R_drew)); exact HO_367001.out))) (Kd.R_lt (by (with_reducible repeat (first | apply Kd.R_alloc | apply Kd.R_drewN | apply Kd.R_drew)); exact HO_367002.out))) (below_size (by repeat (first | (with_reducible first | exact HB.out | apply below_alloc | apply pw_below_drewN | apply below_drew1 | refine below_set ?_ GE347.out | refine below_set ?_ GE366.out) | exact HB.out)))); have n5_ := Aside0.mk (Kd.R_lower (Kd.R_new' (Kd.R_new' ho1 (Kd.R_lt (by (with_reducible repeat (first | apply Kd.R_alloc | apply Kd.R_drewN | apply Kd.R_drew)); exact HO_367001.out))) (Kd.R_lt (by (with_reducible repeat (first | apply Kd.R_alloc | apply Kd.R_drewN | apply Kd.R_drew)); exact HO_367002.out))) (below_size (by repeat (first | (with_reducible first | exact HB.out | apply below_alloc | apply pw_below_drewN | apply below_drew1 | refine below_set ?_ GE347.out | refine below_set ?_ GE366.out) | exact HB.out)))); have n6_ := Aside0.mk (blk_below (g := gb347) (o := .cells #[.int .i64 a1_0, .slice A1_1 l1_1.length c1_1, .slice A1_2 l1_2.length c1_2] 45 (0, 0)) (by (with_reducible repeat (first | refine blk_drewN ?_ _ | refine blk_drew ?_ | refine blk_alloc ?_ _)); exact BK347.out) hb); have n7_ := Aside0.mk (blk_below (g := gb366) (o := .cells #[.int .i64 t359, .slice Ao34 t380.length co34, .slice Ao35 t381.length co35] 37 (0, 0)) (by (with_reducible repeat (first | refine blk_drewN ?_ _ | refine blk_drew ?_ | refine blk_alloc ?_ _)); exact BK366.out) hb); have n8_ := Aside0.mk (below_step (by repeat (first | (with_reducible first | exact HB.out | apply below_alloc | apply pw_below_drewN | apply below_drew1 | refine below_set ?_ GE347.out | refine below_set ?_ GE366.out) | exact HB.out)) hb); clear HO_6; clear HO_8; clear HO_367001; clear HO_367002; clear BK347; clear BK366; clear HB; have HO_6 := n0_; have HO_8 := n1_; have HO_367001 := n2_; have HO_367002 := n3_; have HO389 := n4_; have HO392 := n5_; have BK347 := n6_; have BK366 := n7_; have HB := n8_; clear n0_ n1_ n2_ n3_ n4_ n5_ n6_ n7_ n8_; (try clear hb); (try clear hb2); (try clear hk); (try clear hi); (try clear ho0); (try clear ho1); obtain ⟨Ao64, co64, eo64⟩ := Kd.R_slice HO389.out; subst eo64; obtain ⟨Ao65, co65, eo65⟩ := Kd.R_slice HO392.out; subst eo65) | ((with_reducible refine gate_callee (f := 34) rfl ?_); refine goesL_ (some 64) rfl rfl Try.func34 (by kernel_rfl) rfl #[.string a0, .agg #[.int .i64 t386, .slice Ao64 t387.length co64, .slice Ao65 t390.length co65]] rfl (by (try simp only [List.map_toArray, List.map_cons, List.map_nil]); first | done | rfl | (simp only [List.length_drop, List.length_take]; rfl)) ?_; (with_reducible refine (impl_BatchCapped.calls kj19 a0 t386 _ _ t387 _ _ t390 t393 _ ?side1 ?side2 ?side3 ?side4 A54.out).mono ?_); (case side1 => repeat (first | exact (Kd.R_reads' HO389.out).2.2 | (with_reducible refine Kd.C_alloc ?_ _) | (with_reducible refine Kd.C_drewN ?_ _) | (with_reducible refine Kd.C_drew ?_))); (case side2 => exact (Kd.R_reads' HO389.out).2.1); (case side3 => repeat (first | exact (Kd.R_reads' HO392.out).2.2 | (with_reducible refine Kd.C_alloc ?_ _) | (with_reducible refine Kd.C_drewN ?_ _) | (with_reducible refine Kd.C_drew ?_))); (case side4 => exact (Kd.R_reads' HO392.out).2.1); rintro e w66 ⟨v394, rfl, ho0, hb⟩; refine ⟨_, rfl, ?_⟩; have n0_ := Aside0.mk (Kd.R_elder' (by (with_reducible repeat (first | apply Kd.R_alloc | apply Kd.R_drewN | apply Kd.R_drew)); exact HO_6.out) (Kd.R_base ho0) hb); have n1_ := Aside0.mk (Kd.R_elder' (by (with_reducible repeat (first | apply Kd.R_alloc | apply Kd.R_drewN | apply Kd.R_drew)); exact HO_8.out) (Kd.R_base ho0) hb); have n2_ := Aside0.mk (Kd.R_below (by (with_reducible repeat (first | apply Kd.R_alloc | apply Kd.R_drewN | apply Kd.R_drew)); exact HO_367001.out) hb); have n3_ := Aside0.mk (Kd.R_below (by (with_reducible repeat (first | apply Kd.R_alloc | apply Kd.R_drewN | apply Kd.R_drew)); exact HO_367002.out) hb); have n4_ := Aside0.mk (Kd.R_below (by (with_reducible repeat (first | apply Kd.R_alloc | apply Kd.R_drewN | apply Kd.R_drew)); exact HO389.out) hb); have n5_ := Aside0.mk (Kd.R_below (by (with_reducible repeat (first | apply Kd.R_alloc | apply Kd.R_drewN | apply Kd.R_drew)); exact HO392.out) hb); have n6_ := Aside0.mk (Kd.R_lower (Kd.R_new' (Kd.R_new' ho0 (Kd.R_lt (by (with_reducible repeat (first | apply Kd.R_alloc | apply Kd.R_drewN | apply Kd.R_drew)); exact HO_6.out))) (Kd.R_lt (by (with_reducible repeat (first | apply Kd.R_alloc | apply Kd.R_drewN | apply Kd.R_drew)); exact HO_8.out))) (below_size (by repeat (first | (with_reducible first | exact HB.out | apply below_alloc | apply pw_below_drewN | apply below_drew1 | refine below_set ?_ GE347.out | refine below_set ?_ GE366.out) | exact HB.out)))); have n7_ := Aside0.mk (blk_below (g := gb347) (o := .cells #[.int .i64 a1_0, .slice A1_1 l1_1.length c1_1, .slice A1_2 l1_2.length c1_2] 45 (0, 0)) (by (with_reducible repeat (first | refine blk_drewN ?_ _ | refine blk_drew ?_ | refine blk_alloc ?_ _)); exact BK347.out) hb); have n8_ := Aside0.mk (blk_below (g := gb366) (o := .cells #[.int .i64 t359, .slice Ao34 t380.length co34, .slice Ao35 t381.length co35] 37 (0, 0)) (by (with_reducible repeat (first | refine blk_drewN ?_ _ | refine blk_drew ?_ | refine blk_alloc ?_ _)); exact BK366.out) hb); have n9_ := Aside0.mk (below_step (by repeat (first | (with_reducible first | exact HB.out | apply below_alloc | apply pw_below_drewN | apply below_drew1 | refine below_set ?_ GE347.out | refine below_set ?_ GE366.out) | exact HB.out)) hb); clear HO_6; clear HO_8; clear HO_367001; clear HO_367002; clear HO389; clear HO392; clear BK347; clear BK366; clear HB; have HO_6 := n0_; have HO_8 := n1_; have HO_367001 := n2_; have HO_367002 := n3_; have HO389 := n4_; have HO392 := n5_; have HO395 := n6_; have BK347 := n7_; have BK366 := n8_; have HB := n9_; clear n0_ n1_ n2_ n3_ n4_ n5_ n6_ n7_ n8_ n9_; (try clear hb); (try clear hb2); (try clear hk); (try clear hi); (try clear ho0); obtain ⟨Ao67, co67, eo67⟩ := Kd.R_slice HO395.out; subst eo67) | ((with_reducible refine gate_callee (f := 35) rfl ?_); refine goesL_ (some 67) rfl rfl Try.func35 (by kernel_rfl) rfl #[.slice Ao67 t393.length co67, .slice Ao38 t356.length co38] rfl (by (try simp only [List.map_toArray, List.map_cons, List.map_nil]); first | done | rfl | (simp only [List.length_drop, List.length_take]; rfl)) ?_; (with_reducible refine (laws_eqIntS.calls kj19 _ _ t393 _ _ t356 true _ ?side1 ?side2 ?side3 ?side4 A55.out).mono ?_); (case side1 => repeat (first | exact (Kd.R_reads' HO395.out).2.2 | (with_reducible refine Kd.C_alloc ?_ _) | (with_reducible refine Kd.C_drewN ?_ _) | (with_reducible refine Kd.C_drew ?_))); (case side2 => exact (Kd.R_reads' HO395.out).2.1); (case side3 => repeat (first | exact (Kd.R_reads' HO_6.out).2.2 | (with_reducible refine Kd.C_alloc ?_ _) | (with_reducible refine Kd.C_drewN ?_ _) | (with_reducible refine Kd.C_drew ?_))); (case side4 => exact (Kd.R_reads' HO_6.out).2.1); rintro e w' ⟨rfl, ⟨nd, rfl⟩⟩; refine ⟨_, rfl, ?_⟩) | ((with_reducible refine gate_callee (f := 37) rfl ?_); refine goesL_ (some 71) rfl rfl Try.func37 (by kernel_rfl) rfl #[.slice Ao37 t384.length co37, .int .i64 1] rfl (by (try simp only [List.map_toArray, List.map_cons, List.map_nil]); first | done | (rw [show t384.length = t367.length from (Kd.R_reads' HO_8.out).1.symm] <;> rfl) | rfl | (simp only [List.length_drop, List.length_take]; rfl)) ?_; (with_reducible refine (laws_heldIntS.calls kj19 _ _ t384 1 t397 _ ?side1 ?side2 A57.out).mono ?_); (case side1 => repeat (first | exact (Kd.R_reads' HO_8.out).2.2 | (with_reducible refine Kd.C_alloc ?_ _) | (with_reducible refine Kd.C_drewN ?_ _) | (with_reducible refine Kd.C_drew ?_))); (case side2 => rw [show t384.length = t367.length from (Kd.R_reads' HO_8.out).1.symm]; exact (Kd.R_reads' HO_8.out).2.1); rintro e w' ⟨rfl, ⟨nd, rfl⟩⟩; refine ⟨_, rfl, ?_⟩))
                          go_ret
                          exact ⟨by first | rfl | (simp [errW_none, errW_some] <;> rfl) | (simp [*, errW_none, errW_some] <;> rfl), by repeat (first | (with_reducible first | exact HB.out | apply below_alloc | apply pw_below_drewN | apply below_drew1 | refine below_set ?_ GE347.out | refine below_set ?_ GE366.out) | exact HB.out)⟩
                        · rw [if_neg c59] at H
                          have c59b0 : (t397 == t383) = false := beq_eq_false_iff_ne.mpr c59
                          have c59b1 : (t397 != t383) = true := bne_iff_ne.mpr c59
                          exact absurd ((Option.some.inj H).trans HTRUE_.out) (by decide)
                    · replace c56 := Bool.eq_false_iff.mpr c56
                      subst c56
                      have H1 : (some false) = some r := by rw [if_neg (show ¬ (false = true) by decide)] at H; exact H
                      clear H
                      have H := H1
                      clear H1
                      exact absurd ((Option.some.inj H).trans HTRUE_.out) (by decide)
                  · rw [if_neg c52] at H
                    have c52b0 : (t385 == t383) = false := beq_eq_false_iff_ne.mpr c52
                    have c52b1 : (t385 != t383) = true := bne_iff_ne.mpr c52
                    exact absurd ((Option.some.inj H).trans HTRUE_.out) (by decide)
        · replace c18 := Bool.eq_false_iff.mpr c18
          subst c18
          have H1 : (some false) = some r := by rw [if_neg (show ¬ (false = true) by decide)] at H; exact H
          clear H
          have H := H1
          clear H1
          exact absurd ((Option.some.inj H).trans HTRUE_.out) (by decide)
      · replace c15 := Bool.eq_false_iff.mpr c15
        subst c15
        have H1 : (some false) = some r := by rw [if_neg (show ¬ (false = true) by decide)] at H; exact H
        clear H
        have H := H1
        clear H1
        exact absurd ((Option.some.inj H).trans HTRUE_.out) (by decide)

end Go.Proofs.Ytljmhhadclgegaa.PFnExactBatchCapped

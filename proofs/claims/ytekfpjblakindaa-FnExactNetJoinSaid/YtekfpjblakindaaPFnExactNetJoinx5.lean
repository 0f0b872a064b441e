-- Laid by a program of this session: what the print of the kit writes, and contracts of the session where the print takes no function. Lean checks it.
import Derived.Test.YtekfpjblakindaaPFnExactNetJoinx0
import Derived.Test.YtekfpjblakindaaPFnExactNetJoinx1
import Derived.Test.YtekfpjblakindaaPFnExactNetJoinx2
import Derived.Test.YtekfpjblakindaaPFnExactNetJoinx3
import Derived.Test.YtekfpjblakindaaPFnExactNetJoinx4
namespace Go.Proofs.Ytekfpjblakindaa.PFnExactNetJoin
open Go.RowKit Go.Proofs.YtekfpjblakindaaW.PrintWords Go.Proofs.YtekfpjblakindaaW.PrintLast Go.Proofs.YtekfpjblakindaaW.PrintMore
attribute [local go_sem] max2_int min2_int max_two min_two max_three min_three max_four min_four   -- for this text's walks alone
set_option linter.unusedVariables false
set_option linter.unusedSimpArgs false

set_option maxHeartbeats 8000000 in
set_option maxRecDepth 100000 in
theorem laws_FnExactNetJoin.calls (k : Nat) (a0_0 : Int) (A0_1 : Option Addr) (c0_1 : Nat) (l0_1 : List (S72)) (a1_0 : Int) (A1_1 : Option Addr) (c1_1 : Nat) (l1_1 : List (S72)) (r : Bool) (w : World) (hr0_1 : Kd.C k72 w A0_1 l0_1.length l0_1) (hc0_1 : l0_1.length ≤ c0_1) (hr1_1 : Kd.C k72 w A1_1 l1_1.length l1_1) (hc1_1 : l1_1.length ≤ c1_1) (h : laws_FnExactNetJoin.f k a0_0 l0_1 a1_0 l1_1 = some r) (hT_ : r = true := by rfl) :
    Calls Try.prog 4 #[.agg #[.int .i64 a0_0, .slice A0_1 l0_1.length c0_1], .agg #[.int .i64 a1_0, .slice A1_1 l1_1.length c1_1]] w fun e w' => e = .returned (.bool r) ∧ Below w.heap.size w w' := by
 have HTRUE_ := mk_ hT_
 clear hT_
 have hu37 := Try.underlying37
 have hu28 := Try.underlying28
 have HR0_1 := mk_ hr0_1
 have HC0_1 := mk_ hc0_1
 clear hr0_1 hc0_1
 have HR1_1 := mk_ hr1_1
 have HC1_1 := mk_ hc1_1
 clear hr1_1 hc1_1
 have HB := mk_ (Below.refl w.heap.size w)
 have H : ((laws_szNet.f a0_0 l0_1 1048576).bind fun t155 => (if t155 < 0 then (some true) else ((laws_szNet.f a1_0 l1_1 t155).bind fun t156 => (if t156 < 0 then (some true) else ((laws_toNet.f k a0_0 l0_1).bind fun bt157 => ((laws_toNet.f k a1_0 l1_1).bind fun bt161 => ((spec_NetJoin.f k bt157.1 bt157.2 bt161.1 bt161.2).bind fun bt165 => ((laws_toNet.f k a0_0 l0_1).bind fun bt171 => ((laws_toNet.f k a1_0 l1_1).bind fun bt176 => ((impl_NetJoin.f k bt171.1 bt171.2 bt176.1 bt176.2).bind fun bt181 => ((laws_eqNet.f k bt181.1 bt181.2.1 bt165.1 bt165.2.1).bind fun t187 => (if t187 = true then (laws_FnExactNetJoin.j0 k bt165.2.2 bt181.2.2 (bt181.2.2 != bt165.2.2) a0_0 l0_1 a1_0 l1_1 bt165.1 bt165.2.1 bt171.1 bt171.2 bt176.1 bt176.2 bt181.1 bt181.2.1) else (laws_FnExactNetJoin.j0 k bt165.2.2 bt181.2.2 true a0_0 l0_1 a1_0 l1_1 bt165.1 bt165.2.1 bt171.1 bt171.2 bt176.1 bt176.2 bt181.1 bt181.2.1))))))))))))) = some r := h
 clear h
 replace H := Option.bind_eq_some_iff.mp H
 obtain ⟨t155, A30, H⟩ := H
 replace H : (if t155 < 0 then (some true) else ((laws_szNet.f a1_0 l1_1 t155).bind fun t156 => (if t156 < 0 then (some true) else ((laws_toNet.f k a0_0 l0_1).bind fun bt157 => ((laws_toNet.f k a1_0 l1_1).bind fun bt161 => ((spec_NetJoin.f k bt157.1 bt157.2 bt161.1 bt161.2).bind fun bt165 => ((laws_toNet.f k a0_0 l0_1).bind fun bt171 => ((laws_toNet.f k a1_0 l1_1).bind fun bt176 => ((impl_NetJoin.f k bt171.1 bt171.2 bt176.1 bt176.2).bind fun bt181 => ((laws_eqNet.f k bt181.1 bt181.2.1 bt165.1 bt165.2.1).bind fun t187 => (if t187 = true then (laws_FnExactNetJoin.j0 k bt165.2.2 bt181.2.2 (bt181.2.2 != bt165.2.2) a0_0 l0_1 a1_0 l1_1 bt165.1 bt165.2.1 bt171.1 bt171.2 bt176.1 bt176.2 bt181.1 bt181.2.1) else (laws_FnExactNetJoin.j0 k bt165.2.2 bt181.2.2 true a0_0 l0_1 a1_0 l1_1 bt165.1 bt165.2.1 bt171.1 bt171.2 bt176.1 bt176.2 bt181.1 bt181.2.1)))))))))))) = some r := H
 have A3 := mk_ A30
 clear A30
 by_cases c4 : t155 < 0
 ·
  rw [if_pos c4] at H
  have c4b0 : decide (t155 < 0) = true := decide_eq_true c4
  clear c4
  obtain rfl := Option.some.inj H
  go_enter Try.func4, Try.ntmps4
  go_wp2_with (first | ((with_reducible refine gate_dst (N := 2) rfl ?_); refine box_event ?hg (N := 2) ?hd (cs := #[.int .i64 a0_0, .slice A0_1 l0_1.length c0_1]) (t := 37) ?hr ?_; (case hd => rfl); (case hg => rfl); (case hr => first | (go_simp; done) | (go_simp; rfl)); intro gb153 hg w5 hbox hb; have n0_ := mk_ (below_step (by repeat (first | (with_reducible first | exact HB.out | apply below_alloc | apply pw_below_drewN | apply below_drew1) | exact HB.out)) hb); have n1_ := mk_ (hbox); have n2_ := mk_ ((by rw [hg]; exact (below_size (by repeat (first | (with_reducible first | exact HB.out | apply below_alloc | apply pw_below_drewN | apply below_drew1) | exact HB.out))) : w.heap.size ≤ gb153)); have n3_ := mk_ ((by rw [hg]; exact (below_size (by repeat (first | (with_reducible first | exact HB.out | apply below_alloc | apply pw_below_drewN | apply below_drew1) | exact HB.out))) : w.heap.size ≤ gb153)); replace HB := n0_; have BK153 := n1_; have GW153 := n2_; have GE153 := n3_; clear n0_ n1_ n2_ n3_; clear hb hbox hg) | ((with_reducible refine gate_dst (N := 3) rfl ?_); refine box_event ?hg (N := 3) ?hd (cs := #[.int .i64 a1_0, .slice A1_1 l1_1.length c1_1]) (t := 37) ?hr ?_; (case hd => rfl); (case hg => rfl); (case hr => first | (go_simp; done) | (go_simp; rfl)); intro gb154 hg w6 hbox hb; have n0_ := mk_ (blk_below BK153.out hb); have n1_ := mk_ (below_step (by repeat (first | (with_reducible first | exact HB.out | apply below_alloc | apply pw_below_drewN | apply below_drew1 | refine below_set ?_ GE153.out) | exact HB.out)) hb); have n2_ := mk_ (hbox); have n3_ := mk_ ((by rw [hg]; exact (below_size (by repeat (first | (with_reducible first | exact HB.out | apply below_alloc | apply pw_below_drewN | apply below_drew1 | refine below_set ?_ GE153.out) | exact HB.out))) : w.heap.size ≤ gb154)); have n4_ := mk_ ((by rw [hg]; exact (below_size (by repeat (first | (with_reducible first | exact HB.out | apply below_alloc | apply pw_below_drewN | apply below_drew1 | refine below_set ?_ GE153.out) | exact HB.out))) : w.heap.size ≤ gb154)); have n5_ := mk_ ((by rw [hg]; exact Nat.ne_of_lt (blk_lt BK153.out) : gb153 ≠ gb154)); have n6_ := mk_ ((by rw [hg]; exact Nat.ne_of_gt (blk_lt BK153.out) : gb154 ≠ gb153)); replace BK153 := n0_; replace HB := n1_; have BK154 := n2_; have GW154 := n3_; have GE154 := n4_; have NB153_154 := n5_; have NB154_153 := n6_; clear n0_ n1_ n2_ n3_ n4_ n5_ n6_; clear hb hbox hg; have hnb7 := NB153_154.out; have hnc7 := NB154_153.out; have hcz8_0 : w6.cell? ⟨gb153, 0, none⟩ = some (.int .i64 a0_0) := b4_ BK153.out 0 rfl; have hcz8_1 : w6.cell? ⟨gb153, 1, none⟩ = some (.slice A0_1 l0_1.length c0_1) := b4_ BK153.out 1 rfl; have hfz8_0 := blk_frozen BK153.out 0; have hfz8_1 := blk_frozen BK153.out 1) | ((with_reducible refine gate_callee (f := 16) rfl ?_); refine goesL_ (some 19) rfl rfl Try.func16 (by kernel_rfl) rfl #[.agg #[.int .i64 a0_0, .slice A0_1 l0_1.length c0_1], .int .i64 1048576] rfl (by (try simp only [List.map_toArray, List.map_cons, List.map_nil]); first | done | rfl) ?_; (with_reducible refine (laws_szNet.calls a0_0 _ _ l0_1 1048576 t155 _ ?side1 ?side2 A3.out).mono ?_); (case side1 => repeat (first | exact (Kd.C_below HR0_1.out HB.out) | (with_reducible refine Kd.C_alloc ?_ _) | (with_reducible refine Kd.C_drewN ?_ _) | (with_reducible refine Kd.C_drew ?_))); (case side2 => exact HC0_1.out); rintro e w9 ⟨rfl, hb⟩; refine ⟨_, rfl, ?_⟩; have n0_ := mk_ (blk_below BK153.out hb); have n1_ := mk_ (blk_below BK154.out hb); have n2_ := mk_ (below_step (by repeat (first | (with_reducible first | exact HB.out | apply below_alloc | apply pw_below_drewN | apply below_drew1 | refine below_set ?_ GE153.out | refine below_set ?_ GE154.out) | exact HB.out)) hb); replace BK153 := n0_; replace BK154 := n1_; replace HB := n2_; clear n0_ n1_ n2_; (try clear hb); (try clear hb2); (try clear hk); (try clear hi)))
  go_ret
  exact ⟨by first | rfl | (simp [errW_none, errW_some] <;> rfl) | (simp [*, errW_none, errW_some] <;> rfl), by repeat (first | (with_reducible first | exact HB.out | apply below_alloc | apply pw_below_drewN | apply below_drew1 | refine below_set ?_ GE153.out | refine below_set ?_ GE154.out) | exact HB.out)⟩
 rw [if_neg c4] at H
 have c4b0 : decide (t155 < 0) = false := decide_eq_false c4
 clear c4
 replace H := Option.bind_eq_some_iff.mp H
 obtain ⟨t156, A100, H⟩ := H
 replace H : (if t156 < 0 then (some true) else ((laws_toNet.f k a0_0 l0_1).bind fun bt157 => ((laws_toNet.f k a1_0 l1_1).bind fun bt161 => ((spec_NetJoin.f k bt157.1 bt157.2 bt161.1 bt161.2).bind fun bt165 => ((laws_toNet.f k a0_0 l0_1).bind fun bt171 => ((laws_toNet.f k a1_0 l1_1).bind fun bt176 => ((impl_NetJoin.f k bt171.1 bt171.2 bt176.1 bt176.2).bind fun bt181 => ((laws_eqNet.f k bt181.1 bt181.2.1 bt165.1 bt165.2.1).bind fun t187 => (if t187 = true then (laws_FnExactNetJoin.j0 k bt165.2.2 bt181.2.2 (bt181.2.2 != bt165.2.2) a0_0 l0_1 a1_0 l1_1 bt165.1 bt165.2.1 bt171.1 bt171.2 bt176.1 bt176.2 bt181.1 bt181.2.1) else (laws_FnExactNetJoin.j0 k bt165.2.2 bt181.2.2 true a0_0 l0_1 a1_0 l1_1 bt165.1 bt165.2.1 bt171.1 bt171.2 bt176.1 bt176.2 bt181.1 bt181.2.1)))))))))) = some r := H
 have A10 := mk_ A100
 clear A100
 by_cases c11 : t156 < 0
 ·
  rw [if_pos c11] at H
  have c11b0 : decide (t156 < 0) = true := decide_eq_true c11
  clear c11
  obtain rfl := Option.some.inj H
  go_enter Try.func4, Try.ntmps4
  go_wp2_with (first | ((with_reducible refine gate_dst (N := 2) rfl ?_); refine box_event ?hg (N := 2) ?hd (cs := #[.int .i64 a0_0, .slice A0_1 l0_1.length c0_1]) (t := 37) ?hr ?_; (case hd => rfl); (case hg => rfl); (case hr => first | (go_simp; done) | (go_simp; rfl)); intro gb153 hg w12 hbox hb; have n0_ := mk_ (below_step (by repeat (first | (with_reducible first | exact HB.out | apply below_alloc | apply pw_below_drewN | apply below_drew1) | exact HB.out)) hb); have n1_ := mk_ (hbox); have n2_ := mk_ ((by rw [hg]; exact (below_size (by repeat (first | (with_reducible first | exact HB.out | apply below_alloc | apply pw_below_drewN | apply below_drew1) | exact HB.out))) : w.heap.size ≤ gb153)); have n3_ := mk_ ((by rw [hg]; exact (below_size (by repeat (first | (with_reducible first | exact HB.out | apply below_alloc | apply pw_below_drewN | apply below_drew1) | exact HB.out))) : w.heap.size ≤ gb153)); replace HB := n0_; have BK153 := n1_; have GW153 := n2_; have GE153 := n3_; clear n0_ n1_ n2_ n3_; clear hb hbox hg) | ((with_reducible refine gate_dst (N := 3) rfl ?_); refine box_event ?hg (N := 3) ?hd (cs := #[.int .i64 a1_0, .slice A1_1 l1_1.length c1_1]) (t := 37) ?hr ?_; (case hd => rfl); (case hg => rfl); (case hr => first | (go_simp; done) | (go_simp; rfl)); intro gb154 hg w13 hbox hb; have n0_ := mk_ (blk_below BK153.out hb); have n1_ := mk_ (below_step (by repeat (first | (with_reducible first | exact HB.out | apply below_alloc | apply pw_below_drewN | apply below_drew1 | refine below_set ?_ GE153.out) | exact HB.out)) hb); have n2_ := mk_ (hbox); have n3_ := mk_ ((by rw [hg]; exact (below_size (by repeat (first | (with_reducible first | exact HB.out | apply below_alloc | apply pw_below_drewN | apply below_drew1 | refine below_set ?_ GE153.out) | exact HB.out))) : w.heap.size ≤ gb154)); have n4_ := mk_ ((by rw [hg]; exact (below_size (by repeat (first | (with_reducible first | exact HB.out | apply below_alloc | apply pw_below_drewN | apply below_drew1 | refine below_set ?_ GE153.out) | exact HB.out))) : w.heap.size ≤ gb154)); have n5_ := mk_ ((by rw [hg]; exact Nat.ne_of_lt (blk_lt BK153.out) : gb153 ≠ gb154)); have n6_ := mk_ ((by rw [hg]; exact Nat.ne_of_gt (blk_lt BK153.out) : gb154 ≠ gb153)); replace BK153 := n0_; replace HB := n1_; have BK154 := n2_; have GW154 := n3_; have GE154 := n4_; have NB153_154 := n5_; have NB154_153 := n6_; clear n0_ n1_ n2_ n3_ n4_ n5_ n6_; clear hb hbox hg; have hnb14 := NB153_154.out; have hnc14 := NB154_153.out; have hcz15_0 : w13.cell? ⟨gb153, 0, none⟩ = some (.int .i64 a0_0) := b4_ BK153.out 0 rfl; have hcz15_1 : w13.cell? ⟨gb153, 1, none⟩ = some (.slice A0_1 l0_1.length c0_1) := b4_ BK153.out 1 rfl; have hfz15_0 := blk_frozen BK153.out 0; have hfz15_1 := blk_frozen BK153.out 1) | ((with_reducible refine gate_callee (f := 16) rfl ?_); refine goesL_ (some 19) rfl rfl Try.func16 (by kernel_rfl) rfl #[.agg #[.int .i64 a0_0, .slice A0_1 l0_1.length c0_1], .int .i64 1048576] rfl (by (try simp only [List.map_toArray, List.map_cons, List.map_nil]); first | done | rfl) ?_; (with_reducible refine (laws_szNet.calls a0_0 _ _ l0_1 1048576 t155 _ ?side1 ?side2 A3.out).mono ?_); (case side1 => repeat (first | exact (Kd.C_below HR0_1.out HB.out) | (with_reducible refine Kd.C_alloc ?_ _) | (with_reducible refine Kd.C_drewN ?_ _) | (with_reducible refine Kd.C_drew ?_))); (case side2 => exact HC0_1.out); rintro e w16 ⟨rfl, hb⟩; refine ⟨_, rfl, ?_⟩; have n0_ := mk_ (blk_below BK153.out hb); have n1_ := mk_ (blk_below BK154.out hb); have n2_ := mk_ (below_step (by repeat (first | (with_reducible first | exact HB.out | apply below_alloc | apply pw_below_drewN | apply below_drew1 | refine below_set ?_ GE153.out | refine below_set ?_ GE154.out) | exact HB.out)) hb); replace BK153 := n0_; replace BK154 := n1_; replace HB := n2_; clear n0_ n1_ n2_; (try clear hb); (try clear hb2); (try clear hk); (try clear hi); have hcz17_0 : w16.cell? ⟨gb154, 0, none⟩ = some (.int .i64 a1_0) := b4_ BK154.out 0 rfl; have hcz17_1 : w16.cell? ⟨gb154, 1, none⟩ = some (.slice A1_1 l1_1.length c1_1) := b4_ BK154.out 1 rfl; have hfz17_0 := blk_frozen BK154.out 0; have hfz17_1 := blk_frozen BK154.out 1) | ((with_reducible refine gate_callee (f := 16) rfl ?_); refine goesL_ (some 24) rfl rfl Try.func16 (by kernel_rfl) rfl #[.agg #[.int .i64 a1_0, .slice A1_1 l1_1.length c1_1], .int .i64 t155] rfl (by (try simp only [List.map_toArray, List.map_cons, List.map_nil]); first | done | rfl) ?_; (with_reducible refine (laws_szNet.calls a1_0 _ _ l1_1 t155 t156 _ ?side1 ?side2 A10.out).mono ?_); (case side1 => repeat (first | exact (Kd.C_below HR1_1.out HB.out) | (with_reducible refine Kd.C_alloc ?_ _) | (with_reducible refine Kd.C_drewN ?_ _) | (with_reducible refine Kd.C_drew ?_))); (case side2 => exact HC1_1.out); rintro e w18 ⟨rfl, hb⟩; refine ⟨_, rfl, ?_⟩; have n0_ := mk_ (blk_below BK153.out hb); have n1_ := mk_ (blk_below BK154.out hb); have n2_ := mk_ (below_step (by repeat (first | (with_reducible first | exact HB.out | apply below_alloc | apply pw_below_drewN | apply below_drew1 | refine below_set ?_ GE153.out | refine below_set ?_ GE154.out) | exact HB.out)) hb); replace BK153 := n0_; replace BK154 := n1_; replace HB := n2_; clear n0_ n1_ n2_; (try clear hb); (try clear hb2); (try clear hk); (try clear hi)))
  go_ret
  exact ⟨by first | rfl | (simp [errW_none, errW_some] <;> rfl) | (simp [*, errW_none, errW_some] <;> rfl), by repeat (first | (with_reducible first | exact HB.out | apply below_alloc | apply pw_below_drewN | apply below_drew1 | refine below_set ?_ GE153.out | refine below_set ?_ GE154.out) | exact HB.out)⟩
 rw [if_neg c11] at H
 have c11b0 : decide (t156 < 0) = false := decide_eq_false c11
 clear c11
 replace H := Option.bind_eq_some_iff.mp H
 obtain ⟨⟨t157, t158⟩, A190, H⟩ := H
 replace H : ((laws_toNet.f k a1_0 l1_1).bind fun bt161 => ((spec_NetJoin.f k t157 t158 bt161.1 bt161.2).bind fun bt165 => ((laws_toNet.f k a0_0 l0_1).bind fun bt171 => ((laws_toNet.f k a1_0 l1_1).bind fun bt176 => ((impl_NetJoin.f k bt171.1 bt171.2 bt176.1 bt176.2).bind fun bt181 => ((laws_eqNet.f k bt181.1 bt181.2.1 bt165.1 bt165.2.1).bind fun t187 => (if t187 = true then (laws_FnExactNetJoin.j0 k bt165.2.2 bt181.2.2 (bt181.2.2 != bt165.2.2) a0_0 l0_1 a1_0 l1_1 bt165.1 bt165.2.1 bt171.1 bt171.2 bt176.1 bt176.2 bt181.1 bt181.2.1) else (laws_FnExactNetJoin.j0 k bt165.2.2 bt181.2.2 true a0_0 l0_1 a1_0 l1_1 bt165.1 bt165.2.1 bt171.1 bt171.2 bt176.1 bt176.2 bt181.1 bt181.2.1)))))))) = some r := H
 have A19 := mk_ A190
 clear A190
 replace H := Option.bind_eq_some_iff.mp H
 obtain ⟨⟨t161, t162⟩, A200, H⟩ := H
 replace H : ((spec_NetJoin.f k t157 t158 t161 t162).bind fun bt165 => ((laws_toNet.f k a0_0 l0_1).bind fun bt171 => ((laws_toNet.f k a1_0 l1_1).bind fun bt176 => ((impl_NetJoin.f k bt171.1 bt171.2 bt176.1 bt176.2).bind fun bt181 => ((laws_eqNet.f k bt181.1 bt181.2.1 bt165.1 bt165.2.1).bind fun t187 => (if t187 = true then (laws_FnExactNetJoin.j0 k bt165.2.2 bt181.2.2 (bt181.2.2 != bt165.2.2) a0_0 l0_1 a1_0 l1_1 bt165.1 bt165.2.1 bt171.1 bt171.2 bt176.1 bt176.2 bt181.1 bt181.2.1) else (laws_FnExactNetJoin.j0 k bt165.2.2 bt181.2.2 true a0_0 l0_1 a1_0 l1_1 bt165.1 bt165.2.1 bt171.1 bt171.2 bt176.1 bt176.2 bt181.1 bt181.2.1))))))) = some r := H
 have A20 := mk_ A200
 clear A200
 replace H := Option.bind_eq_some_iff.mp H
 obtain ⟨⟨t165, t166, t169⟩, A210, H⟩ := H
 replace H : ((laws_toNet.f k a0_0 l0_1).bind fun bt171 => ((laws_toNet.f k a1_0 l1_1).bind fun bt176 => ((impl_NetJoin.f k bt171.1 bt171.2 bt176.1 bt176.2).bind fun bt181 => ((laws_eqNet.f k bt181.1 bt181.2.1 t165 t166).bind fun t187 => (if t187 = true then (laws_FnExactNetJoin.j0 k t169 bt181.2.2 (bt181.2.2 != t169) a0_0 l0_1 a1_0 l1_1 t165 t166 bt171.1 bt171.2 bt176.1 bt176.2 bt181.1 bt181.2.1) else (laws_FnExactNetJoin.j0 k t169 bt181.2.2 true a0_0 l0_1 a1_0 l1_1 t165 t166 bt171.1 bt171.2 bt176.1 bt176.2 bt181.1 bt181.2.1)))))) = some r := H
 have A21 := mk_ A210
 clear A210
 replace H := Option.bind_eq_some_iff.mp H
 obtain ⟨⟨t171, t172⟩, A220, H⟩ := H
 replace H : ((laws_toNet.f k a1_0 l1_1).bind fun bt176 => ((impl_NetJoin.f k t171 t172 bt176.1 bt176.2).bind fun bt181 => ((laws_eqNet.f k bt181.1 bt181.2.1 t165 t166).bind fun t187 => (if t187 = true then (laws_FnExactNetJoin.j0 k t169 bt181.2.2 (bt181.2.2 != t169) a0_0 l0_1 a1_0 l1_1 t165 t166 t171 t172 bt176.1 bt176.2 bt181.1 bt181.2.1) else (laws_FnExactNetJoin.j0 k t169 bt181.2.2 true a0_0 l0_1 a1_0 l1_1 t165 t166 t171 t172 bt176.1 bt176.2 bt181.1 bt181.2.1))))) = some r := H
 have A22 := mk_ A220
 clear A220
 replace H := Option.bind_eq_some_iff.mp H
 obtain ⟨⟨t176, t177⟩, A230, H⟩ := H
 replace H : ((impl_NetJoin.f k t171 t172 t176 t177).bind fun bt181 => ((laws_eqNet.f k bt181.1 bt181.2.1 t165 t166).bind fun t187 => (if t187 = true then (laws_FnExactNetJoin.j0 k t169 bt181.2.2 (bt181.2.2 != t169) a0_0 l0_1 a1_0 l1_1 t165 t166 t171 t172 t176 t177 bt181.1 bt181.2.1) else (laws_FnExactNetJoin.j0 k t169 bt181.2.2 true a0_0 l0_1 a1_0 l1_1 t165 t166 t171 t172 t176 t177 bt181.1 bt181.2.1)))) = some r := H
 have A23 := mk_ A230
 clear A230
 replace H := Option.bind_eq_some_iff.mp H
 obtain ⟨⟨t181, t182, t185⟩, A240, H⟩ := H
 replace H : ((laws_eqNet.f k t181 t182 t165 t166).bind fun t187 => (if t187 = true then (laws_FnExactNetJoin.j0 k t169 t185 (t185 != t169) a0_0 l0_1 a1_0 l1_1 t165 t166 t171 t172 t176 t177 t181 t182) else (laws_FnExactNetJoin.j0 k t169 t185 true a0_0 l0_1 a1_0 l1_1 t165 t166 t171 t172 t176 t177 t181 t182))) = some r := H
 have A24 := mk_ A240
 clear A240
 have HC25 := mk_ H
 clear H
 go_enter Try.func4, Try.ntmps4
 try go_wp2_with (first | ((with_reducible refine gate_dst (N := 2) rfl ?_); refine box_event ?hg (N := 2) ?hd (cs := #[.int .i64 a0_0, .slice A0_1 l0_1.length c0_1]) (t := 37) ?hr ?_; (case hd => rfl); (case hg => rfl); (case hr => first | (go_simp; done) | (go_simp; rfl)); intro gb153 hg w26 hbox hb; have n0_ := mk_ (below_step (by repeat (first | (with_reducible first | exact HB.out | apply below_alloc | apply pw_below_drewN | apply below_drew1) | exact HB.out)) hb); have n1_ := mk_ (hbox); have n2_ := mk_ ((by rw [hg]; exact (below_size (by repeat (first | (with_reducible first | exact HB.out | apply below_alloc | apply pw_below_drewN | apply below_drew1) | exact HB.out))) : w.heap.size ≤ gb153)); have n3_ := mk_ ((by rw [hg]; exact (below_size (by repeat (first | (with_reducible first | exact HB.out | apply below_alloc | apply pw_below_drewN | apply below_drew1) | exact HB.out))) : w.heap.size ≤ gb153)); replace HB := n0_; have BK153 := n1_; have GW153 := n2_; have GE153 := n3_; clear n0_ n1_ n2_ n3_; clear hb hbox hg) | ((with_reducible refine gate_dst (N := 3) rfl ?_); refine box_event ?hg (N := 3) ?hd (cs := #[.int .i64 a1_0, .slice A1_1 l1_1.length c1_1]) (t := 37) ?hr ?_; (case hd => rfl); (case hg => rfl); (case hr => first | (go_simp; done) | (go_simp; rfl)); intro gb154 hg w27 hbox hb; have n0_ := mk_ (blk_below BK153.out hb); have n1_ := mk_ (below_step (by repeat (first | (with_reducible first | exact HB.out | apply below_alloc | apply pw_below_drewN | apply below_drew1 | refine below_set ?_ GE153.out) | exact HB.out)) hb); have n2_ := mk_ (hbox); have n3_ := mk_ ((by rw [hg]; exact (below_size (by repeat (first | (with_reducible first | exact HB.out | apply below_alloc | apply pw_below_drewN | apply below_drew1 | refine below_set ?_ GE153.out) | exact HB.out))) : w.heap.size ≤ gb154)); have n4_ := mk_ ((by rw [hg]; exact (below_size (by repeat (first | (with_reducible first | exact HB.out | apply below_alloc | apply pw_below_drewN | apply below_drew1 | refine below_set ?_ GE153.out) | exact HB.out))) : w.heap.size ≤ gb154)); have n5_ := mk_ ((by rw [hg]; exact Nat.ne_of_lt (blk_lt BK153.out) : gb153 ≠ gb154)); have n6_ := mk_ ((by rw [hg]; exact Nat.ne_of_gt (blk_lt BK153.out) : gb154 ≠ gb153)); replace BK153 := n0_; replace HB := n1_; have BK154 := n2_; have GW154 := n3_; have GE154 := n4_; have NB153_154 := n5_; have NB154_153 := n6_; clear n0_ n1_ n2_ n3_ n4_ n5_ n6_; clear hb hbox hg; have hnb28 := NB153_154.out; have hnc28 := NB154_153.out; have hcz29_0 : w27.cell? ⟨gb153, 0, none⟩ = some (.int .i64 a0_0) := b4_ BK153.out 0 rfl; have hcz29_1 : w27.cell? ⟨gb153, 1, none⟩ = some (.slice A0_1 l0_1.length c0_1) := b4_ BK153.out 1 rfl; have hfz29_0 := blk_frozen BK153.out 0; have hfz29_1 := blk_frozen BK153.out 1) | ((with_reducible refine gate_callee (f := 16) rfl ?_); refine goesL_ (some 19) rfl rfl Try.func16 (by kernel_rfl) rfl #[.agg #[.int .i64 a0_0, .slice A0_1 l0_1.length c0_1], .int .i64 1048576] rfl (by (try simp only [List.map_toArray, List.map_cons, List.map_nil]); first | done | rfl) ?_; (with_reducible refine (laws_szNet.calls a0_0 _ _ l0_1 1048576 t155 _ ?side1 ?side2 A3.out).mono ?_); (case side1 => repeat (first | exact (Kd.C_below HR0_1.out HB.out) | (with_reducible refine Kd.C_alloc ?_ _) | (with_reducible refine Kd.C_drewN ?_ _) | (with_reducible refine Kd.C_drew ?_))); (case side2 => exact HC0_1.out); rintro e w30 ⟨rfl, hb⟩; refine ⟨_, rfl, ?_⟩; have n0_ := mk_ (blk_below BK153.out hb); have n1_ := mk_ (blk_below BK154.out hb); have n2_ := mk_ (below_step (by repeat (first | (with_reducible first | exact HB.out | apply below_alloc | apply pw_below_drewN | apply below_drew1 | refine below_set ?_ GE153.out | refine below_set ?_ GE154.out) | exact HB.out)) hb); replace BK153 := n0_; replace BK154 := n1_; replace HB := n2_; clear n0_ n1_ n2_; (try clear hb); (try clear hb2); (try clear hk); (try clear hi); have hcz31_0 : w30.cell? ⟨gb154, 0, none⟩ = some (.int .i64 a1_0) := b4_ BK154.out 0 rfl; have hcz31_1 : w30.cell? ⟨gb154, 1, none⟩ = some (.slice A1_1 l1_1.length c1_1) := b4_ BK154.out 1 rfl; have hfz31_0 := blk_frozen BK154.out 0; have hfz31_1 := blk_frozen BK154.out 1) | ((with_reducible refine gate_callee (f := 16) rfl ?_); refine goesL_ (some 24) rfl rfl Try.func16 (by kernel_rfl) rfl #[.agg #[.int .i64 a1_0, .slice A1_1 l1_1.length c1_1], .int .i64 t155] rfl (by (try simp only [List.map_toArray, List.map_cons, List.map_nil]); first | done | rfl) ?_; (with_reducible refine (laws_szNet.calls a1_0 _ _ l1_1 t155 t156 _ ?side1 ?side2 A10.out).mono ?_); (case side1 => repeat (first | exact (Kd.C_below HR1_1.out HB.out) | (with_reducible refine Kd.C_alloc ?_ _) | (with_reducible refine Kd.C_drewN ?_ _) | (with_reducible refine Kd.C_drew ?_))); (case side2 => exact HC1_1.out); rintro e w32 ⟨rfl, hb⟩; refine ⟨_, rfl, ?_⟩; have n0_ := mk_ (blk_below BK153.out hb); have n1_ := mk_ (blk_below BK154.out hb); have n2_ := mk_ (below_step (by repeat (first | (with_reducible first | exact HB.out | apply below_alloc | apply pw_below_drewN | apply below_drew1 | refine below_set ?_ GE153.out | refine below_set ?_ GE154.out) | exact HB.out)) hb); replace BK153 := n0_; replace BK154 := n1_; replace HB := n2_; clear n0_ n1_ n2_; (try clear hb); (try clear hb2); (try clear hk); (try clear hi)))
 replace BK153 := mk_ (blk_drew BK153.out)
 replace BK154 := mk_ (blk_drew BK154.out)
 replace HB := mk_ (below_drew1 HB.out)
 refine start_ (n := 11) (S := fun w' => w'.cell? ⟨gb153, 0, none⟩ = some (.int .i64 a0_0) ∧ w'.cell? ⟨gb153, 1, none⟩ = some (.slice A0_1 l0_1.length c0_1) ∧ w'.cell? ⟨gb154, 0, none⟩ = some (.int .i64 a1_0) ∧ w'.cell? ⟨gb154, 1, none⟩ = some (.slice A1_1 l1_1.length c1_1)) (ds := []) #[false, false, false, false, false, false, false, false, false, false, false] (by kernel_rfl) rfl rfl ⟨b4_ BK153.out 0 rfl, b4_ BK153.out 1 rfl, b4_ BK154.out 0 rfl, b4_ BK154.out 1 rfl⟩ (fun hHeld => ?_); refine with_tabW laws_FnExactNetJoin.tab8 laws_FnExactNetJoin.bits8 (fun HT_ HW_ => ?_)
 generalize w32.drew = w33 at BK153 BK154 HB hHeld ⊢
 refine take_ (i := 0) (N := some 28) (v := ?_) (a' := ?_) #[true, false, false, false, false, false, false, false, false, false, false] rfl rfl (take_ofW HT_.out HW_.out (by kernel_rfl)) (fun _ _ _ h => h) (Or.inl ⟨by rfl, ?_⟩) hHeld ?_ ?_
 rotate_left
 ·
  rintro w' ⟨s0, s1, s2, s3⟩
  go_simp
  with_reducible rfl
 rotate_left
 ·
  simp only [Act.put, List.setIfInBounds_toArray, List.set_cons_zero, List.set_cons_succ, i64_w, i32_w]
  rfl
 refine take_ (i := 2) (N := some 30) (v := ?_) (a' := ?_) #[true, false, true, false, false, false, false, false, false, false, false] rfl rfl (take_ofW HT_.out HW_.out (by kernel_rfl)) (fun _ _ _ h => h) (Or.inl ⟨by rfl, ?_⟩) hHeld ?_ ?_
 rotate_left
 ·
  rintro w' ⟨s0, s1, s2, s3⟩
  go_simp
  with_reducible rfl
 rotate_left
 ·
  simp only [Act.put, List.setIfInBounds_toArray, List.set_cons_zero, List.set_cons_succ, i64_w, i32_w]
  rfl
 refine join_ (σ := Value × Value × Value × Nat) 2 #[true, true, true, true, true, true, true, true, true, false, false] (fun s_ => [(29, .agg #[.int .i64 t157, s_.1]), (31, .agg #[.int .i64 t161, s_.2.1]), (32, .tuple #[.agg #[.int .i64 t165, s_.2.2.1], .bool t169]), (6, .pointer (some ⟨s_.2.2.2, 0, none⟩)), (27, .tuple #[.agg #[.int .i64 t165, s_.2.2.1], .bool t169]), (33, .agg #[.int .i64 t165, s_.2.2.1]), (34, .bool t169)]) (fun s_ w' => (w'.cell? ⟨gb153, 0, none⟩ = some (.int .i64 a0_0) ∧ w'.cell? ⟨gb153, 1, none⟩ = some (.slice A0_1 l0_1.length c0_1) ∧ w'.cell? ⟨gb154, 0, none⟩ = some (.int .i64 a1_0) ∧ w'.cell? ⟨gb154, 1, none⟩ = some (.slice A1_1 l1_1.length c1_1)) ∧ (Kd.R k55 55 w' w.heap.size (fun k_ => some k_ ≠ (s_.2.1 : Value).ownBlock ∧ some k_ ≠ (s_.2.2.1 : Value).ownBlock) s_.1 t158) ∧ (Kd.R k55 55 w' w.heap.size (fun k_ => some k_ ≠ (s_.1 : Value).ownBlock ∧ some k_ ≠ (s_.2.2.1 : Value).ownBlock) s_.2.1 t162) ∧ (Kd.R k55 55 w' w.heap.size (fun k_ => some k_ ≠ (s_.1 : Value).ownBlock ∧ some k_ ≠ (s_.2.1 : Value).ownBlock) s_.2.2.1 t166) ∧ (w'.heap[gb153]? = some (.cells #[.int .i64 a0_0, .slice A0_1 l0_1.length c0_1] 37 (0, 0))) ∧ (w'.heap[gb154]? = some (.cells #[.int .i64 a1_0, .slice A1_1 l1_1.length c1_1] 37 (0, 0))) ∧ (w'.heap[s_.2.2.2]? = some (.cells #[.int .i64 0, .slice none 0 0] 28 (0, 0))) ∧ (w.heap.size ≤ s_.2.2.2) ∧ (w.heap.size ≤ s_.2.2.2) ∧ (gb153 ≠ s_.2.2.2) ∧ (s_.2.2.2 ≠ gb153) ∧ (gb154 ≠ s_.2.2.2) ∧ (s_.2.2.2 ≠ gb154) ∧ (Below w.heap.size w w')) ?_ ?_
 rotate_left
 ·
  intro hCont
  refine two_ (i := 1) (j := 8) (Ni := some 29) (Nj := some 6) #[true, true, true, false, false, false, false, false, false, false, false] #[true, false, true, false, false, false, false, false, true, false, false] rfl rfl rfl rfl (two_of HT_.out (by kernel_rfl)) (by decide) (by decide) (fun K hK => ?_) (fun K hK => ?_)
  rotate_left
  ·
   skip
   refine box_step ?hg (N := 6) ?hd (cs := #[.int .i64 0, .slice none 0 0]) (t := 28) ?hr ?_; (case hd => rfl); (case hg => rfl); (case hr => first | (go_simp; done) | (go_simp; rfl))
   intro gb170 hg w34 hbox hb
   have BK170 := mk_ (hbox)
   have GW170 := mk_ ((by rw [hg]; exact (below_size HB.out) : w.heap.size ≤ gb170))
   have GE170 := mk_ ((by rw [hg]; exact (below_size HB.out) : w.heap.size ≤ gb170))
   have NB153_170 := mk_ ((by rw [hg]; exact Nat.ne_of_lt (blk_lt BK153.out) : gb153 ≠ gb170))
   have NB170_153 := mk_ ((by rw [hg]; exact Nat.ne_of_gt (blk_lt BK153.out) : gb170 ≠ gb153))
   have NB154_170 := mk_ ((by rw [hg]; exact Nat.ne_of_lt (blk_lt BK154.out) : gb154 ≠ gb170))
   have NB170_154 := mk_ ((by rw [hg]; exact Nat.ne_of_gt (blk_lt BK154.out) : gb170 ≠ gb154))
   replace BK153 := mk_ (blk_below BK153.out hb)
   replace BK154 := mk_ (blk_below BK154.out hb)
   replace HB := mk_ (below_step HB.out hb)
   clear hb hbox hg
   refine hK.out _ _ ⟨b4_ BK153.out 0 rfl, b4_ BK153.out 1 rfl, b4_ BK154.out 0 rfl, b4_ BK154.out 1 rfl⟩ (fun hHeld => ?_)
   clear hK K
   refine norm_ (a' := ?_) ?_ ?_
   rotate_left
   ·
    show Act.put _ (some 6) _ = _
    simp only [Act.put, List.setIfInBounds_toArray, List.set_cons_zero, List.set_cons_succ, i64_w, i32_w]
    rfl
   refine one_ (i := 1) (N := some 29) #[true, true, true, false, false, false, false, false, true, false, false] rfl rfl (one_of HT_.out (by kernel_rfl)) (by decide) (fun K hK => ?_)
   refine goes_ Try.func18 (by kernel_rfl) rfl #[.agg #[.int .i64 a0_0, .slice A0_1 l0_1.length c0_1]] (by rfl) rfl rfl (by (try simp only [List.map_toArray, List.map_cons, List.map_nil]); first | done | rfl) ?_
   with_reducible refine (laws_toNet.calls k a0_0 _ _ l0_1 t157 t158 _ ?side1 ?side2 A19.out).mono ?_
   (case side1 => repeat (first | exact (Kd.C_below HR0_1.out HB.out) | (with_reducible refine Kd.C_alloc ?_ _) | (with_reducible refine Kd.C_drewN ?_ _) | (with_reducible refine Kd.C_drew ?_)))
   (case side2 => exact HC0_1.out)
   rintro e w35 ⟨v159, rfl, ho0, hb⟩
   refine ⟨_, rfl, ?_⟩
   have HO160 := mk_ (Kd.R_lower ho0 (below_size HB.out))
   replace BK153 := mk_ (blk_below BK153.out hb)
   replace BK154 := mk_ (blk_below BK154.out hb)
   replace BK170 := mk_ (blk_below BK170.out hb)
   replace HB := mk_ (below_step HB.out hb)
   (try clear hb)
   (try clear hb2)
   (try clear hk)
   (try clear hi)
   (try clear ho0)
   refine hK.out _ _ ⟨b4_ BK153.out 0 rfl, b4_ BK153.out 1 rfl, b4_ BK154.out 0 rfl, b4_ BK154.out 1 rfl⟩ (fun hHeld => ?_)
   clear hK K
   refine norm_ (a' := ?_) ?_ ?_
   rotate_left
   ·
    show Act.put _ (some 29) _ = _
    simp only [Act.put, List.setIfInBounds_toArray, List.set_cons_zero, List.set_cons_succ, i64_w, i32_w]
    rfl
   refine one_ (i := 3) (N := some 31) #[true, true, true, true, false, false, false, false, true, false, false] rfl rfl (one_of HT_.out (by kernel_rfl)) (by decide) (fun K hK => ?_)
   refine goes_ Try.func18 (by kernel_rfl) rfl #[.agg #[.int .i64 a1_0, .slice A1_1 l1_1.length c1_1]] (by rfl) rfl rfl (by (try simp only [List.map_toArray, List.map_cons, List.map_nil]); first | done | rfl) ?_
   with_reducible refine (laws_toNet.calls k a1_0 _ _ l1_1 t161 t162 _ ?side1 ?side2 A20.out).mono ?_
   (case side1 => repeat (first | exact (Kd.C_below HR1_1.out HB.out) | (with_reducible refine Kd.C_alloc ?_ _) | (with_reducible refine Kd.C_drewN ?_ _) | (with_reducible refine Kd.C_drew ?_)))
   (case side2 => exact HC1_1.out)
   rintro e w36 ⟨v163, rfl, ho0, hb⟩
   refine ⟨_, rfl, ?_⟩
   have HO164 := mk_ (Kd.R_lower (Kd.R_new' ho0 (Kd.R_lt (by (with_reducible repeat (first | apply Kd.R_alloc | apply Kd.R_drewN | apply Kd.R_drew)); exact HO160.out))) (below_size HB.out))
   replace HO160 := mk_ (Kd.R_elder' HO160.out (Kd.R_base ho0) hb)
   replace BK153 := mk_ (blk_below BK153.out hb)
   replace BK154 := mk_ (blk_below BK154.out hb)
   replace BK170 := mk_ (blk_below BK170.out hb)
   replace HB := mk_ (below_step HB.out hb)
   (try clear hb)
   (try clear hb2)
   (try clear hk)
   (try clear hi)
   (try clear ho0)
   obtain ⟨Ao37, co37, eo37⟩ := Kd.R_slice HO160.out
   (first | subst eo37 | (injection eo37 with f1_ f2_ f3_; have f4_ := f1_.symm; have f5_ := f3_.symm; clear f1_ f2_ f3_; subst f4_; subst f5_))
   obtain ⟨Ao38, co38, eo38⟩ := Kd.R_slice HO164.out
   (first | subst eo38 | (injection eo38 with f1_ f2_ f3_; have f4_ := f1_.symm; have f5_ := f3_.symm; clear f1_ f2_ f3_; subst f4_; subst f5_))
   refine hK.out _ _ ⟨b4_ BK153.out 0 rfl, b4_ BK153.out 1 rfl, b4_ BK154.out 0 rfl, b4_ BK154.out 1 rfl⟩ (fun hHeld => ?_)
   clear hK K
   refine norm_ (a' := ?_) ?_ ?_
   rotate_left
   ·
    show Act.put _ (some 31) _ = _
    simp only [Act.put, List.setIfInBounds_toArray, List.set_cons_zero, List.set_cons_succ, i64_w, i32_w]
    rfl
   refine one_ (i := 4) (N := some 32) #[true, true, true, true, true, false, false, false, true, false, false] rfl rfl (one_of HT_.out (by kernel_rfl)) (by decide) (fun K hK => ?_)
   refine goes_ Try.func17 (by kernel_rfl) rfl #[.agg #[.int .i64 t157, .slice Ao37 t158.length co37], .agg #[.int .i64 t161, .slice Ao38 t162.length co38]] (by rfl) rfl rfl (by (try simp only [List.map_toArray, List.map_cons, List.map_nil]); first | done | rfl) ?_
   with_reducible refine (spec_NetJoin.calls k t157 _ _ t158 t161 _ _ t162 t165 t166 t169 _ ?side1 ?side2 ?side3 ?side4 A21.out).mono ?_
   (case side1 => repeat (first | exact (Kd.R_reads' HO160.out).2.2 | (with_reducible refine Kd.C_alloc ?_ _) | (with_reducible refine Kd.C_drewN ?_ _) | (with_reducible refine Kd.C_drew ?_)))
   (case side2 => exact (Kd.R_reads' HO160.out).2.1)
   (case side3 => repeat (first | exact (Kd.R_reads' HO164.out).2.2 | (with_reducible refine Kd.C_alloc ?_ _) | (with_reducible refine Kd.C_drewN ?_ _) | (with_reducible refine Kd.C_drew ?_)))
   (case side4 => exact (Kd.R_reads' HO164.out).2.1)
   rintro e w39 ⟨v167, rfl, ho0, hb⟩
   refine ⟨_, rfl, ?_⟩
   have HO168 := mk_ (Kd.R_lower (Kd.R_new' (Kd.R_new' ho0 (Kd.R_lt (by (with_reducible repeat (first | apply Kd.R_alloc | apply Kd.R_drewN | apply Kd.R_drew)); exact HO160.out))) (Kd.R_lt (by (with_reducible repeat (first | apply Kd.R_alloc | apply Kd.R_drewN | apply Kd.R_drew)); exact HO164.out))) (below_size HB.out))
   replace HO160 := mk_ (Kd.R_elder' HO160.out (Kd.R_base ho0) hb)
   replace HO164 := mk_ (Kd.R_elder' HO164.out (Kd.R_base ho0) hb)
   replace BK153 := mk_ (blk_below BK153.out hb)
   replace BK154 := mk_ (blk_below BK154.out hb)
   replace BK170 := mk_ (blk_below BK170.out hb)
   replace HB := mk_ (below_step HB.out hb)
   (try clear hb)
   (try clear hb2)
   (try clear hk)
   (try clear hi)
   (try clear ho0)
   refine hK.out _ _ ⟨b4_ BK153.out 0 rfl, b4_ BK153.out 1 rfl, b4_ BK154.out 0 rfl, b4_ BK154.out 1 rfl⟩ (fun hHeld => ?_)
   clear hK K
   refine norm_ (a' := ?_) ?_ ?_
   rotate_left
   ·
    show Act.put _ (some 32) _ = _
    simp only [Act.put, List.setIfInBounds_toArray, List.set_cons_zero, List.set_cons_succ, i64_w, i32_w]
    rfl
   refine pure_ (i := 5) (N := some 27) (v := ?_) (a' := ?_) #[true, true, true, true, true, true, false, false, true, false, false] rfl rfl (any_of HT_.out (by kernel_rfl)) (fun _ _ _ h => h) (Or.inl ⟨by rfl, ?_⟩) ?_ ?_
   rotate_left
   ·
    intro w'
    go_simp
    with_reducible rfl
   rotate_left
   ·
    simp only [Act.put, List.setIfInBounds_toArray, List.set_cons_zero, List.set_cons_succ, i64_w, i32_w]
    rfl
   refine pure_ (i := 6) (N := some 33) (v := ?_) (a' := ?_) #[true, true, true, true, true, true, true, false, true, false, false] rfl rfl (any_of HT_.out (by kernel_rfl)) (fun _ _ _ h => h) (Or.inl ⟨by rfl, ?_⟩) ?_ ?_
   rotate_left
   ·
    intro w'
    go_simp
    with_reducible rfl
   rotate_left
   ·
    simp only [Act.put, List.setIfInBounds_toArray, List.set_cons_zero, List.set_cons_succ, i64_w, i32_w]
    rfl
   refine pure_ (i := 7) (N := some 34) (v := ?_) (a' := ?_) #[true, true, true, true, true, true, true, true, true, false, false] rfl rfl (any_of HT_.out (by kernel_rfl)) (fun _ _ _ h => h) (Or.inl ⟨by rfl, ?_⟩) ?_ ?_
   rotate_left
   ·
    intro w'
    go_simp
    with_reducible rfl
   rotate_left
   ·
    simp only [Act.put, List.setIfInBounds_toArray, List.set_cons_zero, List.set_cons_succ, i64_w, i32_w]
    rfl
   exact norm_ (by simp only [putAll, Act.put, List.setIfInBounds_toArray, List.set_cons_zero, List.set_cons_succ]) (hCont (.slice Ao37 t158.length co37, .slice Ao38 t162.length co38, v167, gb170) _ ⟨hHeld, (by (with_reducible repeat (first | apply Kd.R_alloc | apply Kd.R_drewN | apply Kd.R_drew)); exact Kd.R_mono HO160.out (fun _ hk => ⟨hk.1.2, hk.2⟩)), (by (with_reducible repeat (first | apply Kd.R_alloc | apply Kd.R_drewN | apply Kd.R_drew)); exact Kd.R_mono HO164.out (fun _ hk => ⟨hk.1.2, hk.2⟩)), (by (with_reducible repeat (first | apply Kd.R_alloc | apply Kd.R_drewN | apply Kd.R_drew)); exact Kd.R_mono HO168.out (fun _ hk => ⟨hk.1.2, hk.2⟩)), BK153.out, BK154.out, BK170.out, GW170.out, GE170.out, NB153_170.out, NB170_153.out, NB154_170.out, NB170_154.out, HB.out⟩)
  skip
  refine goes_ Try.func18 (by kernel_rfl) rfl #[.agg #[.int .i64 a0_0, .slice A0_1 l0_1.length c0_1]] (by rfl) rfl rfl (by (try simp only [List.map_toArray, List.map_cons, List.map_nil]); first | done | rfl) ?_
  with_reducible refine (laws_toNet.calls k a0_0 _ _ l0_1 t157 t158 _ ?side1 ?side2 A19.out).mono ?_
  (case side1 => repeat (first | exact (Kd.C_below HR0_1.out HB.out) | (with_reducible refine Kd.C_alloc ?_ _) | (with_reducible refine Kd.C_drewN ?_ _) | (with_reducible refine Kd.C_drew ?_)))
  (case side2 => exact HC0_1.out)
  rintro e w34 ⟨v159, rfl, ho0, hb⟩
  refine ⟨_, rfl, ?_⟩
  have HO160 := mk_ (Kd.R_lower ho0 (below_size HB.out))
  replace BK153 := mk_ (blk_below BK153.out hb)
  replace BK154 := mk_ (blk_below BK154.out hb)
  replace HB := mk_ (below_step HB.out hb)
  (try clear hb)
  (try clear hb2)
  (try clear hk)
  (try clear hi)
  (try clear ho0)
  refine hK.out _ _ ⟨b4_ BK153.out 0 rfl, b4_ BK153.out 1 rfl, b4_ BK154.out 0 rfl, b4_ BK154.out 1 rfl⟩ (fun hHeld => ?_)
  clear hK K
  refine norm_ (a' := ?_) ?_ ?_
  rotate_left
  ·
   show Act.put _ (some 29) _ = _
   simp only [Act.put, List.setIfInBounds_toArray, List.set_cons_zero, List.set_cons_succ, i64_w, i32_w]
   rfl
  refine two_ (i := 3) (j := 8) (Ni := some 31) (Nj := some 6) #[true, true, true, true, false, false, false, false, false, false, false] #[true, true, true, false, false, false, false, false, true, false, false] rfl rfl rfl rfl (two_of HT_.out (by kernel_rfl)) (by decide) (by decide) (fun K hK => ?_) (fun K hK => ?_)
  rotate_left
  ·
   skip
   refine box_step ?hg (N := 6) ?hd (cs := #[.int .i64 0, .slice none 0 0]) (t := 28) ?hr ?_; (case hd => rfl); (case hg => rfl); (case hr => first | (go_simp; done) | (go_simp; rfl))
   intro gb170 hg w35 hbox hb
   have BK170 := mk_ (hbox)
   have GW170 := mk_ ((by rw [hg]; exact (below_size HB.out) : w.heap.size ≤ gb170))
   have GE170 := mk_ ((by rw [hg]; exact (below_size HB.out) : w.heap.size ≤ gb170))
   have NB153_170 := mk_ ((by rw [hg]; exact Nat.ne_of_lt (blk_lt BK153.out) : gb153 ≠ gb170))
   have NB170_153 := mk_ ((by rw [hg]; exact Nat.ne_of_gt (blk_lt BK153.out) : gb170 ≠ gb153))
   have NB154_170 := mk_ ((by rw [hg]; exact Nat.ne_of_lt (blk_lt BK154.out) : gb154 ≠ gb170))
   have NB170_154 := mk_ ((by rw [hg]; exact Nat.ne_of_gt (blk_lt BK154.out) : gb170 ≠ gb154))
   replace HO160 := mk_ (Kd.R_below HO160.out hb)
   replace BK153 := mk_ (blk_below BK153.out hb)
   replace BK154 := mk_ (blk_below BK154.out hb)
   replace HB := mk_ (below_step HB.out hb)
   clear hb hbox hg
   refine hK.out _ _ ⟨b4_ BK153.out 0 rfl, b4_ BK153.out 1 rfl, b4_ BK154.out 0 rfl, b4_ BK154.out 1 rfl⟩ (fun hHeld => ?_)
   clear hK K
   refine norm_ (a' := ?_) ?_ ?_
   rotate_left
   ·
    show Act.put _ (some 6) _ = _
    simp only [Act.put, List.setIfInBounds_toArray, List.set_cons_zero, List.set_cons_succ, i64_w, i32_w]
    rfl
   refine one_ (i := 3) (N := some 31) #[true, true, true, true, false, false, false, false, true, false, false] rfl rfl (one_of HT_.out (by kernel_rfl)) (by decide) (fun K hK => ?_)
   refine goes_ Try.func18 (by kernel_rfl) rfl #[.agg #[.int .i64 a1_0, .slice A1_1 l1_1.length c1_1]] (by rfl) rfl rfl (by (try simp only [List.map_toArray, List.map_cons, List.map_nil]); first | done | rfl) ?_
   with_reducible refine (laws_toNet.calls k a1_0 _ _ l1_1 t161 t162 _ ?side1 ?side2 A20.out).mono ?_
   (case side1 => repeat (first | exact (Kd.C_below HR1_1.out HB.out) | (with_reducible refine Kd.C_alloc ?_ _) | (with_reducible refine Kd.C_drewN ?_ _) | (with_reducible refine Kd.C_drew ?_)))
   (case side2 => exact HC1_1.out)
   rintro e w36 ⟨v163, rfl, ho0, hb⟩
   refine ⟨_, rfl, ?_⟩
   have HO164 := mk_ (Kd.R_lower (Kd.R_new' ho0 (Kd.R_lt (by (with_reducible repeat (first | apply Kd.R_alloc | apply Kd.R_drewN | apply Kd.R_drew)); exact HO160.out))) (below_size HB.out))
   replace HO160 := mk_ (Kd.R_elder' HO160.out (Kd.R_base ho0) hb)
   replace BK153 := mk_ (blk_below BK153.out hb)
   replace BK154 := mk_ (blk_below BK154.out hb)
   replace BK170 := mk_ (blk_below BK170.out hb)
   replace HB := mk_ (below_step HB.out hb)
   (try clear hb)
   (try clear hb2)
   (try clear hk)
   (try clear hi)
   (try clear ho0)
   obtain ⟨Ao37, co37, eo37⟩ := Kd.R_slice HO160.out
   (first | subst eo37 | (injection eo37 with f1_ f2_ f3_; have f4_ := f1_.symm; have f5_ := f3_.symm; clear f1_ f2_ f3_; subst f4_; subst f5_))
   obtain ⟨Ao38, co38, eo38⟩ := Kd.R_slice HO164.out
   (first | subst eo38 | (injection eo38 with f1_ f2_ f3_; have f4_ := f1_.symm; have f5_ := f3_.symm; clear f1_ f2_ f3_; subst f4_; subst f5_))
   refine hK.out _ _ ⟨b4_ BK153.out 0 rfl, b4_ BK153.out 1 rfl, b4_ BK154.out 0 rfl, b4_ BK154.out 1 rfl⟩ (fun hHeld => ?_)
   clear hK K
   refine norm_ (a' := ?_) ?_ ?_
   rotate_left
   ·
    show Act.put _ (some 31) _ = _
    simp only [Act.put, List.setIfInBounds_toArray, List.set_cons_zero, List.set_cons_succ, i64_w, i32_w]
    rfl
   refine one_ (i := 4) (N := some 32) #[true, true, true, true, true, false, false, false, true, false, false] rfl rfl (one_of HT_.out (by kernel_rfl)) (by decide) (fun K hK => ?_)
   refine goes_ Try.func17 (by kernel_rfl) rfl #[.agg #[.int .i64 t157, .slice Ao37 t158.length co37], .agg #[.int .i64 t161, .slice Ao38 t162.length co38]] (by rfl) rfl rfl (by (try simp only [List.map_toArray, List.map_cons, List.map_nil]); first | done | rfl) ?_
   with_reducible refine (spec_NetJoin.calls k t157 _ _ t158 t161 _ _ t162 t165 t166 t169 _ ?side1 ?side2 ?side3 ?side4 A21.out).mono ?_
   (case side1 => repeat (first | exact (Kd.R_reads' HO160.out).2.2 | (with_reducible refine Kd.C_alloc ?_ _) | (with_reducible refine Kd.C_drewN ?_ _) | (with_reducible refine Kd.C_drew ?_)))
   (case side2 => exact (Kd.R_reads' HO160.out).2.1)
   (case side3 => repeat (first | exact (Kd.R_reads' HO164.out).2.2 | (with_reducible refine Kd.C_alloc ?_ _) | (with_reducible refine Kd.C_drewN ?_ _) | (with_reducible refine Kd.C_drew ?_)))
   (case side4 => exact (Kd.R_reads' HO164.out).2.1)
   rintro e w39 ⟨v167, rfl, ho0, hb⟩
   refine ⟨_, rfl, ?_⟩
   have HO168 := mk_ (Kd.R_lower (Kd.R_new' (Kd.R_new' ho0 (Kd.R_lt (by (with_reducible repeat (first | apply Kd.R_alloc | apply Kd.R_drewN | apply Kd.R_drew)); exact HO160.out))) (Kd.R_lt (by (with_reducible repeat (first | apply Kd.R_alloc | apply Kd.R_drewN | apply Kd.R_drew)); exact HO164.out))) (below_size HB.out))
   replace HO160 := mk_ (Kd.R_elder' HO160.out (Kd.R_base ho0) hb)
   replace HO164 := mk_ (Kd.R_elder' HO164.out (Kd.R_base ho0) hb)
   replace BK153 := mk_ (blk_below BK153.out hb)
   replace BK154 := mk_ (blk_below BK154.out hb)
   replace BK170 := mk_ (blk_below BK170.out hb)
   replace HB := mk_ (below_step HB.out hb)
   (try clear hb)
   (try clear hb2)
   (try clear hk)
   (try clear hi)
   (try clear ho0)
   refine hK.out _ _ ⟨b4_ BK153.out 0 rfl, b4_ BK153.out 1 rfl, b4_ BK154.out 0 rfl, b4_ BK154.out 1 rfl⟩ (fun hHeld => ?_)
   clear hK K
   refine norm_ (a' := ?_) ?_ ?_
   rotate_left
   ·
    show Act.put _ (some 32) _ = _
    simp only [Act.put, List.setIfInBounds_toArray, List.set_cons_zero, List.set_cons_succ, i64_w, i32_w]
    rfl
   refine pure_ (i := 5) (N := some 27) (v := ?_) (a' := ?_) #[true, true, true, true, true, true, false, false, true, false, false] rfl rfl (any_of HT_.out (by kernel_rfl)) (fun _ _ _ h => h) (Or.inl ⟨by rfl, ?_⟩) ?_ ?_
   rotate_left
   ·
    intro w'
    go_simp
    with_reducible rfl
   rotate_left
   ·
    simp only [Act.put, List.setIfInBounds_toArray, List.set_cons_zero, List.set_cons_succ, i64_w, i32_w]
    rfl
   refine pure_ (i := 6) (N := some 33) (v := ?_) (a' := ?_) #[true, true, true, true, true, true, true, false, true, false, false] rfl rfl (any_of HT_.out (by kernel_rfl)) (fun _ _ _ h => h) (Or.inl ⟨by rfl, ?_⟩) ?_ ?_
   rotate_left
   ·
    intro w'
    go_simp
    with_reducible rfl
   rotate_left
   ·
    simp only [Act.put, List.setIfInBounds_toArray, List.set_cons_zero, List.set_cons_succ, i64_w, i32_w]
    rfl
   refine pure_ (i := 7) (N := some 34) (v := ?_) (a' := ?_) #[true, true, true, true, true, true, true, true, true, false, false] rfl rfl (any_of HT_.out (by kernel_rfl)) (fun _ _ _ h => h) (Or.inl ⟨by rfl, ?_⟩) ?_ ?_
   rotate_left
   ·
    intro w'
    go_simp
    with_reducible rfl
   rotate_left
   ·
    simp only [Act.put, List.setIfInBounds_toArray, List.set_cons_zero, List.set_cons_succ, i64_w, i32_w]
    rfl
   exact norm_ (by simp only [putAll, Act.put, List.setIfInBounds_toArray, List.set_cons_zero, List.set_cons_succ]) (hCont (.slice Ao37 t158.length co37, .slice Ao38 t162.length co38, v167, gb170) _ ⟨hHeld, (by (with_reducible repeat (first | apply Kd.R_alloc | apply Kd.R_drewN | apply Kd.R_drew)); exact Kd.R_mono HO160.out (fun _ hk => ⟨hk.1.2, hk.2⟩)), (by (with_reducible repeat (first | apply Kd.R_alloc | apply Kd.R_drewN | apply Kd.R_drew)); exact Kd.R_mono HO164.out (fun _ hk => ⟨hk.1.2, hk.2⟩)), (by (with_reducible repeat (first | apply Kd.R_alloc | apply Kd.R_drewN | apply Kd.R_drew)); exact Kd.R_mono HO168.out (fun _ hk => ⟨hk.1.2, hk.2⟩)), BK153.out, BK154.out, BK170.out, GW170.out, GE170.out, NB153_170.out, NB170_153.out, NB154_170.out, NB170_154.out, HB.out⟩)
  skip
  refine goes_ Try.func18 (by kernel_rfl) rfl #[.agg #[.int .i64 a1_0, .slice A1_1 l1_1.length c1_1]] (by rfl) rfl rfl (by (try simp only [List.map_toArray, List.map_cons, List.map_nil]); first | done | rfl) ?_
  with_reducible refine (laws_toNet.calls k a1_0 _ _ l1_1 t161 t162 _ ?side1 ?side2 A20.out).mono ?_
  (case side1 => repeat (first | exact (Kd.C_below HR1_1.out HB.out) | (with_reducible refine Kd.C_alloc ?_ _) | (with_reducible refine Kd.C_drewN ?_ _) | (with_reducible refine Kd.C_drew ?_)))
  (case side2 => exact HC1_1.out)
  rintro e w35 ⟨v163, rfl, ho0, hb⟩
  refine ⟨_, rfl, ?_⟩
  have HO164 := mk_ (Kd.R_lower (Kd.R_new' ho0 (Kd.R_lt (by (with_reducible repeat (first | apply Kd.R_alloc | apply Kd.R_drewN | apply Kd.R_drew)); exact HO160.out))) (below_size HB.out))
  replace HO160 := mk_ (Kd.R_elder' HO160.out (Kd.R_base ho0) hb)
  replace BK153 := mk_ (blk_below BK153.out hb)
  replace BK154 := mk_ (blk_below BK154.out hb)
  replace HB := mk_ (below_step HB.out hb)
  (try clear hb)
  (try clear hb2)
  (try clear hk)
  (try clear hi)
  (try clear ho0)
  obtain ⟨Ao36, co36, eo36⟩ := Kd.R_slice HO160.out
  (first | subst eo36 | (injection eo36 with f1_ f2_ f3_; have f4_ := f1_.symm; have f5_ := f3_.symm; clear f1_ f2_ f3_; subst f4_; subst f5_))
  obtain ⟨Ao37, co37, eo37⟩ := Kd.R_slice HO164.out
  (first | subst eo37 | (injection eo37 with f1_ f2_ f3_; have f4_ := f1_.symm; have f5_ := f3_.symm; clear f1_ f2_ f3_; subst f4_; subst f5_))
  refine hK.out _ _ ⟨b4_ BK153.out 0 rfl, b4_ BK153.out 1 rfl, b4_ BK154.out 0 rfl, b4_ BK154.out 1 rfl⟩ (fun hHeld => ?_)
  clear hK K
  refine norm_ (a' := ?_) ?_ ?_
  rotate_left
  ·
   show Act.put _ (some 31) _ = _
   simp only [Act.put, List.setIfInBounds_toArray, List.set_cons_zero, List.set_cons_succ, i64_w, i32_w]
   rfl
  refine two_ (i := 4) (j := 8) (Ni := some 32) (Nj := some 6) #[true, true, true, true, true, false, false, false, false, false, false] #[true, true, true, true, false, false, false, false, true, false, false] rfl rfl rfl rfl (two_of HT_.out (by kernel_rfl)) (by decide) (by decide) (fun K hK => ?_) (fun K hK => ?_)
  ·
   skip
   refine goes_ Try.func17 (by kernel_rfl) rfl #[.agg #[.int .i64 t157, .slice Ao36 t158.length co36], .agg #[.int .i64 t161, .slice Ao37 t162.length co37]] (by rfl) rfl rfl (by (try simp only [List.map_toArray, List.map_cons, List.map_nil]); first | done | rfl) ?_
   with_reducible refine (spec_NetJoin.calls k t157 _ _ t158 t161 _ _ t162 t165 t166 t169 _ ?side1 ?side2 ?side3 ?side4 A21.out).mono ?_
   (case side1 => repeat (first | exact (Kd.R_reads' HO160.out).2.2 | (with_reducible refine Kd.C_alloc ?_ _) | (with_reducible refine Kd.C_drewN ?_ _) | (with_reducible refine Kd.C_drew ?_)))
   (case side2 => exact (Kd.R_reads' HO160.out).2.1)
   (case side3 => repeat (first | exact (Kd.R_reads' HO164.out).2.2 | (with_reducible refine Kd.C_alloc ?_ _) | (with_reducible refine Kd.C_drewN ?_ _) | (with_reducible refine Kd.C_drew ?_)))
   (case side4 => exact (Kd.R_reads' HO164.out).2.1)
   rintro e w38 ⟨v167, rfl, ho0, hb⟩
   refine ⟨_, rfl, ?_⟩
   have HO168 := mk_ (Kd.R_lower (Kd.R_new' (Kd.R_new' ho0 (Kd.R_lt (by (with_reducible repeat (first | apply Kd.R_alloc | apply Kd.R_drewN | apply Kd.R_drew)); exact HO160.out))) (Kd.R_lt (by (with_reducible repeat (first | apply Kd.R_alloc | apply Kd.R_drewN | apply Kd.R_drew)); exact HO164.out))) (below_size HB.out))
   replace HO160 := mk_ (Kd.R_elder' HO160.out (Kd.R_base ho0) hb)
   replace HO164 := mk_ (Kd.R_elder' HO164.out (Kd.R_base ho0) hb)
   replace BK153 := mk_ (blk_below BK153.out hb)
   replace BK154 := mk_ (blk_below BK154.out hb)
   replace HB := mk_ (below_step HB.out hb)
   (try clear hb)
   (try clear hb2)
   (try clear hk)
   (try clear hi)
   (try clear ho0)
   refine hK.out _ _ ⟨b4_ BK153.out 0 rfl, b4_ BK153.out 1 rfl, b4_ BK154.out 0 rfl, b4_ BK154.out 1 rfl⟩ (fun hHeld => ?_)
   clear hK K
   refine norm_ (a' := ?_) ?_ ?_
   rotate_left
   ·
    show Act.put _ (some 32) _ = _
    simp only [Act.put, List.setIfInBounds_toArray, List.set_cons_zero, List.set_cons_succ, i64_w, i32_w]
    rfl
   refine pure_ (i := 5) (N := some 27) (v := ?_) (a' := ?_) #[true, true, true, true, true, true, false, false, false, false, false] rfl rfl (any_of HT_.out (by kernel_rfl)) (fun _ _ _ h => h) (Or.inl ⟨by rfl, ?_⟩) ?_ ?_
   rotate_left
   ·
    intro w'
    go_simp
    with_reducible rfl
   rotate_left
   ·
    simp only [Act.put, List.setIfInBounds_toArray, List.set_cons_zero, List.set_cons_succ, i64_w, i32_w]
    rfl
   refine pure_ (i := 6) (N := some 33) (v := ?_) (a' := ?_) #[true, true, true, true, true, true, true, false, false, false, false] rfl rfl (any_of HT_.out (by kernel_rfl)) (fun _ _ _ h => h) (Or.inl ⟨by rfl, ?_⟩) ?_ ?_
   rotate_left
   ·
    intro w'
    go_simp
    with_reducible rfl
   rotate_left
   ·
    simp only [Act.put, List.setIfInBounds_toArray, List.set_cons_zero, List.set_cons_succ, i64_w, i32_w]
    rfl
   refine pure_ (i := 7) (N := some 34) (v := ?_) (a' := ?_) #[true, true, true, true, true, true, true, true, false, false, false] rfl rfl (any_of HT_.out (by kernel_rfl)) (fun _ _ _ h => h) (Or.inl ⟨by rfl, ?_⟩) ?_ ?_
   rotate_left
   ·
    intro w'
    go_simp
    with_reducible rfl
   rotate_left
   ·
    simp only [Act.put, List.setIfInBounds_toArray, List.set_cons_zero, List.set_cons_succ, i64_w, i32_w]
    rfl
   refine one_ (i := 8) (N := some 6) #[true, true, true, true, true, true, true, true, true, false, false] rfl rfl (one_of HT_.out (by kernel_rfl)) (by decide) (fun K hK => ?_)
   refine box_step ?hg (N := 6) ?hd (cs := #[.int .i64 0, .slice none 0 0]) (t := 28) ?hr ?_; (case hd => rfl); (case hg => rfl); (case hr => first | (go_simp; done) | (go_simp; rfl))
   intro gb170 hg w39 hbox hb
   have BK170 := mk_ (hbox)
   have GW170 := mk_ ((by rw [hg]; exact (below_size HB.out) : w.heap.size ≤ gb170))
   have GE170 := mk_ ((by rw [hg]; exact (below_size HB.out) : w.heap.size ≤ gb170))
   have NB153_170 := mk_ ((by rw [hg]; exact Nat.ne_of_lt (blk_lt BK153.out) : gb153 ≠ gb170))
   have NB170_153 := mk_ ((by rw [hg]; exact Nat.ne_of_gt (blk_lt BK153.out) : gb170 ≠ gb153))
   have NB154_170 := mk_ ((by rw [hg]; exact Nat.ne_of_lt (blk_lt BK154.out) : gb154 ≠ gb170))
   have NB170_154 := mk_ ((by rw [hg]; exact Nat.ne_of_gt (blk_lt BK154.out) : gb170 ≠ gb154))
   replace HO160 := mk_ (Kd.R_below HO160.out hb)
   replace HO164 := mk_ (Kd.R_below HO164.out hb)
   replace HO168 := mk_ (Kd.R_below HO168.out hb)
   replace BK153 := mk_ (blk_below BK153.out hb)
   replace BK154 := mk_ (blk_below BK154.out hb)
   replace HB := mk_ (below_step HB.out hb)
   clear hb hbox hg
   refine hK.out _ _ ⟨b4_ BK153.out 0 rfl, b4_ BK153.out 1 rfl, b4_ BK154.out 0 rfl, b4_ BK154.out 1 rfl⟩ (fun hHeld => ?_)
   clear hK K
   refine norm_ (a' := ?_) ?_ ?_
   rotate_left
   ·
    show Act.put _ (some 6) _ = _
    simp only [Act.put, List.setIfInBounds_toArray, List.set_cons_zero, List.set_cons_succ, i64_w, i32_w]
    rfl
   exact norm_ (by simp only [putAll, Act.put, List.setIfInBounds_toArray, List.set_cons_zero, List.set_cons_succ]) (hCont (.slice Ao36 t158.length co36, .slice Ao37 t162.length co37, v167, gb170) _ ⟨hHeld, (by (with_reducible repeat (first | apply Kd.R_alloc | apply Kd.R_drewN | apply Kd.R_drew)); exact Kd.R_mono HO160.out (fun _ hk => ⟨hk.1.2, hk.2⟩)), (by (with_reducible repeat (first | apply Kd.R_alloc | apply Kd.R_drewN | apply Kd.R_drew)); exact Kd.R_mono HO164.out (fun _ hk => ⟨hk.1.2, hk.2⟩)), (by (with_reducible repeat (first | apply Kd.R_alloc | apply Kd.R_drewN | apply Kd.R_drew)); exact Kd.R_mono HO168.out (fun _ hk => ⟨hk.1.2, hk.2⟩)), BK153.out, BK154.out, BK170.out, GW170.out, GE170.out, NB153_170.out, NB170_153.out, NB154_170.out, NB170_154.out, HB.out⟩)
  skip
  refine box_step ?hg (N := 6) ?hd (cs := #[.int .i64 0, .slice none 0 0]) (t := 28) ?hr ?_; (case hd => rfl); (case hg => rfl); (case hr => first | (go_simp; done) | (go_simp; rfl))
  intro gb170 hg w36 hbox hb
  have BK170 := mk_ (hbox)
  have GW170 := mk_ ((by rw [hg]; exact (below_size HB.out) : w.heap.size ≤ gb170))
  have GE170 := mk_ ((by rw [hg]; exact (below_size HB.out) : w.heap.size ≤ gb170))
  have NB153_170 := mk_ ((by rw [hg]; exact Nat.ne_of_lt (blk_lt BK153.out) : gb153 ≠ gb170))
  have NB170_153 := mk_ ((by rw [hg]; exact Nat.ne_of_gt (blk_lt BK153.out) : gb170 ≠ gb153))
  have NB154_170 := mk_ ((by rw [hg]; exact Nat.ne_of_lt (blk_lt BK154.out) : gb154 ≠ gb170))
  have NB170_154 := mk_ ((by rw [hg]; exact Nat.ne_of_gt (blk_lt BK154.out) : gb170 ≠ gb154))
  replace HO160 := mk_ (Kd.R_below HO160.out hb)
  replace HO164 := mk_ (Kd.R_below HO164.out hb)
  replace BK153 := mk_ (blk_below BK153.out hb)
  replace BK154 := mk_ (blk_below BK154.out hb)
  replace HB := mk_ (below_step HB.out hb)
  clear hb hbox hg
  obtain ⟨Ao37, co37, eo37⟩ := Kd.R_slice HO160.out
  (first | subst eo37 | (injection eo37 with f1_ f2_ f3_; have f4_ := f1_.symm; have f5_ := f3_.symm; clear f1_ f2_ f3_; subst f4_; subst f5_))
  obtain ⟨Ao38, co38, eo38⟩ := Kd.R_slice HO164.out
  (first | subst eo38 | (injection eo38 with f1_ f2_ f3_; have f4_ := f1_.symm; have f5_ := f3_.symm; clear f1_ f2_ f3_; subst f4_; subst f5_))
  refine hK.out _ _ ⟨b4_ BK153.out 0 rfl, b4_ BK153.out 1 rfl, b4_ BK154.out 0 rfl, b4_ BK154.out 1 rfl⟩ (fun hHeld => ?_)
  clear hK K
  refine norm_ (a' := ?_) ?_ ?_
  rotate_left
  ·
   show Act.put _ (some 6) _ = _
   simp only [Act.put, List.setIfInBounds_toArray, List.set_cons_zero, List.set_cons_succ, i64_w, i32_w]
   rfl
  refine one_ (i := 4) (N := some 32) #[true, true, true, true, true, false, false, false, true, false, false] rfl rfl (one_of HT_.out (by kernel_rfl)) (by decide) (fun K hK => ?_)
  refine goes_ Try.func17 (by kernel_rfl) rfl #[.agg #[.int .i64 t157, .slice Ao37 t158.length co37], .agg #[.int .i64 t161, .slice Ao38 t162.length co38]] (by rfl) rfl rfl (by (try simp only [List.map_toArray, List.map_cons, List.map_nil]); first | done | rfl) ?_
  with_reducible refine (spec_NetJoin.calls k t157 _ _ t158 t161 _ _ t162 t165 t166 t169 _ ?side1 ?side2 ?side3 ?side4 A21.out).mono ?_
  (case side1 => repeat (first | exact (Kd.R_reads' HO160.out).2.2 | (with_reducible refine Kd.C_alloc ?_ _) | (with_reducible refine Kd.C_drewN ?_ _) | (with_reducible refine Kd.C_drew ?_)))
  (case side2 => exact (Kd.R_reads' HO160.out).2.1)
  (case side3 => repeat (first | exact (Kd.R_reads' HO164.out).2.2 | (with_reducible refine Kd.C_alloc ?_ _) | (with_reducible refine Kd.C_drewN ?_ _) | (with_reducible refine Kd.C_drew ?_)))
  (case side4 => exact (Kd.R_reads' HO164.out).2.1)
  rintro e w39 ⟨v167, rfl, ho0, hb⟩
  refine ⟨_, rfl, ?_⟩
  have HO168 := mk_ (Kd.R_lower (Kd.R_new' (Kd.R_new' ho0 (Kd.R_lt (by (with_reducible repeat (first | apply Kd.R_alloc | apply Kd.R_drewN | apply Kd.R_drew)); exact HO160.out))) (Kd.R_lt (by (with_reducible repeat (first | apply Kd.R_alloc | apply Kd.R_drewN | apply Kd.R_drew)); exact HO164.out))) (below_size HB.out))
  replace HO160 := mk_ (Kd.R_elder' HO160.out (Kd.R_base ho0) hb)
  replace HO164 := mk_ (Kd.R_elder' HO164.out (Kd.R_base ho0) hb)
  replace BK153 := mk_ (blk_below BK153.out hb)
  replace BK154 := mk_ (blk_below BK154.out hb)
  replace BK170 := mk_ (blk_below BK170.out hb)
  replace HB := mk_ (below_step HB.out hb)
  (try clear hb)
  (try clear hb2)
  (try clear hk)
  (try clear hi)
  (try clear ho0)
  refine hK.out _ _ ⟨b4_ BK153.out 0 rfl, b4_ BK153.out 1 rfl, b4_ BK154.out 0 rfl, b4_ BK154.out 1 rfl⟩ (fun hHeld => ?_)
  clear hK K
  refine norm_ (a' := ?_) ?_ ?_
  rotate_left
  ·
   show Act.put _ (some 32) _ = _
   simp only [Act.put, List.setIfInBounds_toArray, List.set_cons_zero, List.set_cons_succ, i64_w, i32_w]
   rfl
  refine pure_ (i := 5) (N := some 27) (v := ?_) (a' := ?_) #[true, true, true, true, true, true, false, false, true, false, false] rfl rfl (any_of HT_.out (by kernel_rfl)) (fun _ _ _ h => h) (Or.inl ⟨by rfl, ?_⟩) ?_ ?_
  rotate_left
  ·
   intro w'
   go_simp
   with_reducible rfl
  rotate_left
  ·
   simp only [Act.put, List.setIfInBounds_toArray, List.set_cons_zero, List.set_cons_succ, i64_w, i32_w]
   rfl
  refine pure_ (i := 6) (N := some 33) (v := ?_) (a' := ?_) #[true, true, true, true, true, true, true, false, true, false, false] rfl rfl (any_of HT_.out (by kernel_rfl)) (fun _ _ _ h => h) (Or.inl ⟨by rfl, ?_⟩) ?_ ?_
  rotate_left
  ·
   intro w'
   go_simp
   with_reducible rfl
  rotate_left
  ·
   simp only [Act.put, List.setIfInBounds_toArray, List.set_cons_zero, List.set_cons_succ, i64_w, i32_w]
   rfl
  refine pure_ (i := 7) (N := some 34) (v := ?_) (a' := ?_) #[true, true, true, true, true, true, true, true, true, false, false] rfl rfl (any_of HT_.out (by kernel_rfl)) (fun _ _ _ h => h) (Or.inl ⟨by rfl, ?_⟩) ?_ ?_
  rotate_left
  ·
   intro w'
   go_simp
   with_reducible rfl
  rotate_left
  ·
   simp only [Act.put, List.setIfInBounds_toArray, List.set_cons_zero, List.set_cons_succ, i64_w, i32_w]
   rfl
  exact norm_ (by simp only [putAll, Act.put, List.setIfInBounds_toArray, List.set_cons_zero, List.set_cons_succ]) (hCont (.slice Ao37 t158.length co37, .slice Ao38 t162.length co38, v167, gb170) _ ⟨hHeld, (by (with_reducible repeat (first | apply Kd.R_alloc | apply Kd.R_drewN | apply Kd.R_drew)); exact Kd.R_mono HO160.out (fun _ hk => ⟨hk.1.2, hk.2⟩)), (by (with_reducible repeat (first | apply Kd.R_alloc | apply Kd.R_drewN | apply Kd.R_drew)); exact Kd.R_mono HO164.out (fun _ hk => ⟨hk.1.2, hk.2⟩)), (by (with_reducible repeat (first | apply Kd.R_alloc | apply Kd.R_drewN | apply Kd.R_drew)); exact Kd.R_mono HO168.out (fun _ hk => ⟨hk.1.2, hk.2⟩)), BK153.out, BK154.out, BK170.out, GW170.out, GE170.out, NB153_170.out, NB170_153.out, NB154_170.out, NB170_154.out, HB.out⟩)
 rintro ⟨v159, v163, v167, gb170⟩ w40 ⟨hS_, h0_, h1_, h2_, h3_, h4_, h5_, h6_, h7_, h8_, h9_, h10_, h11_, h12_⟩
 have HO160 := mk_ h0_
 have HO164 := mk_ h1_
 have HO168 := mk_ h2_
 have BK170 := mk_ h5_
 have GW170 := mk_ h6_
 have GE170 := mk_ h7_
 have NB153_170 := mk_ h8_
 have NB170_153 := mk_ h9_
 have NB154_170 := mk_ h10_
 have NB170_154 := mk_ h11_
 replace BK153 := mk_ h3_
 replace BK154 := mk_ h4_
 replace HB := mk_ h12_
 clear h0_ h1_ h2_ h3_ h4_ h5_ h6_ h7_ h8_ h9_ h10_ h11_ h12_
 have hHeld : w40.cell? ⟨gb153, 0, none⟩ = some (.int .i64 a0_0) ∧ w40.cell? ⟨gb153, 1, none⟩ = some (.slice A0_1 l0_1.length c0_1) ∧ w40.cell? ⟨gb154, 0, none⟩ = some (.int .i64 a1_0) ∧ w40.cell? ⟨gb154, 1, none⟩ = some (.slice A1_1 l1_1.length c1_1) := hS_
 obtain ⟨Ao42, co42, eo42⟩ := Kd.R_slice HO168.out
 (first | subst eo42 | (injection eo42 with f1_ f2_ f3_; have f4_ := f1_.symm; have f5_ := f3_.symm; clear f1_ f2_ f3_; subst f4_; subst f5_))
 refine norm_ (a' := ?_) ?_ ?_
 rotate_left
 ·
  simp only [putAll, Act.put, List.setIfInBounds_toArray, List.set_cons_zero, List.set_cons_succ]
  rfl
 refine one_ (i := 9) (N := none) #[true, true, true, true, true, true, true, true, true, true, false] rfl rfl (one_of HT_.out (by kernel_rfl)) (by decide) (fun K hK => ?_)
 have hs41 : w40.cell? ⟨gb170, 0, none⟩ = some (.int .i64 0) := b4_ BK170.out 0 rfl
 have hfs41 := blk_frozen BK170.out 0
 have hns41_0 := NB153_170.out
 have hns41_1 := NB154_170.out
 have hms41_0 := NB170_153.out
 have hms41_1 := NB170_154.out
 have hs43 : w40.cell? ⟨gb170, 1, none⟩ = some (.slice none 0 0) := b4_ BK170.out 1 rfl
 have hfs43 := blk_frozen BK170.out 1
 have hns43_0 := NB153_170.out
 have hns43_1 := NB154_170.out
 have hms43_0 := NB170_153.out
 have hms43_1 := NB170_154.out
 refine skip_ (w1 := ?_) (by rfl) rfl ?_ ?_
 rotate_left
 ·
  go_simp
  rfl
 refine hK.out _ _ ⟨((cell_far (p := ⟨gb170, _, none⟩) NB153_170.out _).trans (((cell_far (p := ⟨gb170, _, none⟩) NB153_170.out _).trans (hHeld.1)))), ((cell_far (p := ⟨gb170, _, none⟩) NB153_170.out _).trans (((cell_far (p := ⟨gb170, _, none⟩) NB153_170.out _).trans (hHeld.2.1)))), ((cell_far (p := ⟨gb170, _, none⟩) NB154_170.out _).trans (((cell_far (p := ⟨gb170, _, none⟩) NB154_170.out _).trans (hHeld.2.2.1)))), ((cell_far (p := ⟨gb170, _, none⟩) NB154_170.out _).trans (((cell_far (p := ⟨gb170, _, none⟩) NB154_170.out _).trans (hHeld.2.2.2))))⟩ (fun hHeld => ?_)
 clear hK K
 refine pure_ (i := 10) (N := some 7) (v := ?_) (a' := ?_) #[true, true, true, true, true, true, true, true, true, true, true] rfl rfl (any_of HT_.out (by kernel_rfl)) (fun _ _ _ h => h) (Or.inl ⟨by rfl, ?_⟩) ?_ ?_
 rotate_left
 ·
  intro w'
  go_simp
  with_reducible rfl
 rotate_left
 ·
  simp only [Act.put, List.setIfInBounds_toArray, List.set_cons_zero, List.set_cons_succ, i64_w, i32_w]
  rfl
 refine done_ (done_of HT_.out (by kernel_rfl)) ?_
 have hnb44 := NB153_170.out
 have hnc44 := NB170_153.out
 have hcz45_0 : w40.cell? ⟨gb153, 0, none⟩ = some (.int .i64 a0_0) := b4_ BK153.out 0 rfl
 have hcz45_1 : w40.cell? ⟨gb153, 1, none⟩ = some (.slice A0_1 l0_1.length c0_1) := b4_ BK153.out 1 rfl
 have hfz45_0 := blk_frozen BK153.out 0
 have hfz45_1 := blk_frozen BK153.out 1
 go_upto_region 12 with (first | ((with_reducible refine gate_callee (f := 18) rfl ?_); refine goesL_ (some 36) rfl rfl Try.func18 (by kernel_rfl) rfl #[.agg #[.int .i64 a0_0, .slice A0_1 l0_1.length c0_1]] rfl (by (try simp only [List.map_toArray, List.map_cons, List.map_nil]); first | done | rfl) ?_; (with_reducible refine (laws_toNet.calls k a0_0 _ _ l0_1 t171 t172 _ ?side1 ?side2 A22.out).mono ?_); (case side1 => exact Kd.C_below HR0_1.out (by repeat (first | (with_reducible first | exact HB.out | apply below_alloc | apply pw_below_drewN | apply below_drew1 | refine below_set ?_ GE153.out | refine below_set ?_ GE154.out | refine below_set ?_ GE170.out) | exact HB.out))); (case side2 => exact HC0_1.out); rintro e w46 ⟨v173, rfl, ho0, hb⟩; refine ⟨_, rfl, ?_⟩; have n0_ := mk_ (Kd.R_elder' (Kd.R_mono (Kd.R_far (p := ⟨gb170, 1, none⟩) (Kd.R_far (p := ⟨gb170, 0, none⟩) (Kd.R_types HO160.out BK170.out (by decide)) (fun _ hk => by first | exact hk.2 | trivial) (.int .i64 t165)) (fun _ hk => by first | exact hk.2 | trivial) (.slice Ao42 t166.length co42)) (fun _ h_ => h_.1)) (Kd.R_base ho0) hb); have n1_ := mk_ (Kd.R_elder' (Kd.R_mono (Kd.R_far (p := ⟨gb170, 1, none⟩) (Kd.R_far (p := ⟨gb170, 0, none⟩) (Kd.R_types HO164.out BK170.out (by decide)) (fun _ hk => by first | exact hk.2 | trivial) (.int .i64 t165)) (fun _ hk => by first | exact hk.2 | trivial) (.slice Ao42 t166.length co42)) (fun _ h_ => h_.1)) (Kd.R_base ho0) hb); have n2_ := mk_ (Kd.R_elder' (Kd.R_mono (Kd.R_far (p := ⟨gb170, 1, none⟩) (Kd.R_far (p := ⟨gb170, 0, none⟩) (Kd.R_types HO168.out BK170.out (by decide)) (fun _ hk => by first | exact hk.2 | trivial) (.int .i64 t165)) (fun _ hk => by first | exact hk.2 | trivial) (.slice Ao42 t166.length co42)) (fun _ h_ => h_.1)) (Kd.R_base ho0) hb); have n3_ := mk_ (Kd.R_lower (Kd.R_new' (Kd.R_new' (Kd.R_new' ho0 (Kd.R_lt (by (with_reducible repeat (first | apply Kd.R_alloc | apply Kd.R_drewN | apply Kd.R_drew)); exact (Kd.R_mono (Kd.R_far (p := ⟨gb170, 1, none⟩) (Kd.R_far (p := ⟨gb170, 0, none⟩) (Kd.R_types HO160.out BK170.out (by decide)) (fun _ hk => by first | exact hk.2 | trivial) (.int .i64 t165)) (fun _ hk => by first | exact hk.2 | trivial) (.slice Ao42 t166.length co42)) (fun _ h_ => h_.1))))) (Kd.R_lt (by (with_reducible repeat (first | apply Kd.R_alloc | apply Kd.R_drewN | apply Kd.R_drew)); exact (Kd.R_mono (Kd.R_far (p := ⟨gb170, 1, none⟩) (Kd.R_far (p := ⟨gb170, 0, none⟩) (Kd.R_types HO164.out BK170.out (by decide)) (fun _ hk => by first | exact hk.2 | trivial) (.int .i64 t165)) (fun _ hk => by first | exact hk.2 | trivial) (.slice Ao42 t166.length co42)) (fun _ h_ => h_.1))))) (Kd.R_lt (by (with_reducible repeat (first | apply Kd.R_alloc | apply Kd.R_drewN | apply Kd.R_drew)); exact (Kd.R_mono (Kd.R_far (p := ⟨gb170, 1, none⟩) (Kd.R_far (p := ⟨gb170, 0, none⟩) (Kd.R_types HO168.out BK170.out (by decide)) (fun _ hk => by first | exact hk.2 | trivial) (.int .i64 t165)) (fun _ hk => by first | exact hk.2 | trivial) (.slice Ao42 t166.length co42)) (fun _ h_ => h_.1))))) (below_size (by repeat (first | (with_reducible first | exact HB.out | apply below_alloc | apply pw_below_drewN | apply below_drew1 | refine below_set ?_ GE153.out | refine below_set ?_ GE154.out | refine below_set ?_ GE170.out) | exact HB.out)))); have n4_ := mk_ (blk_below (g := gb153) (o := .cells #[.int .i64 a0_0, .slice A0_1 l0_1.length c0_1] 37 (0, 0)) (by (with_reducible repeat (first | refine blk_drewN ?_ _ | refine blk_drew ?_ | refine blk_alloc ?_ _)); refine blk_far ?_ NB153_170.out _; (with_reducible repeat (first | refine blk_drewN ?_ _ | refine blk_drew ?_ | refine blk_alloc ?_ _)); refine blk_far ?_ NB153_170.out _; (with_reducible repeat (first | refine blk_drewN ?_ _ | refine blk_drew ?_ | refine blk_alloc ?_ _)); exact BK153.out) hb); have n5_ := mk_ (blk_below (g := gb154) (o := .cells #[.int .i64 a1_0, .slice A1_1 l1_1.length c1_1] 37 (0, 0)) (by (with_reducible repeat (first | refine blk_drewN ?_ _ | refine blk_drew ?_ | refine blk_alloc ?_ _)); refine blk_far ?_ NB154_170.out _; (with_reducible repeat (first | refine blk_drewN ?_ _ | refine blk_drew ?_ | refine blk_alloc ?_ _)); refine blk_far ?_ NB154_170.out _; (with_reducible repeat (first | refine blk_drewN ?_ _ | refine blk_drew ?_ | refine blk_alloc ?_ _)); exact BK154.out) hb); have n6_ := mk_ (blk_below (g := gb170) (o := .cells #[.int .i64 t165, .slice Ao42 t166.length co42] 28 (0, 0)) (by (with_reducible repeat (first | refine blk_drewN ?_ _ | refine blk_drew ?_ | refine blk_alloc ?_ _)); refine blk_put (cs := #[.int .i64 t165, .slice none 0 0]) ?_ 1 _ rfl; (with_reducible repeat (first | refine blk_drewN ?_ _ | refine blk_drew ?_ | refine blk_alloc ?_ _)); refine blk_put (cs := #[.int .i64 0, .slice none 0 0]) ?_ 0 _ rfl; (with_reducible repeat (first | refine blk_drewN ?_ _ | refine blk_drew ?_ | refine blk_alloc ?_ _)); exact BK170.out) hb); have n7_ := mk_ (below_step (by repeat (first | (with_reducible first | exact HB.out | apply below_alloc | apply pw_below_drewN | apply below_drew1 | refine below_set ?_ GE153.out | refine below_set ?_ GE154.out | refine below_set ?_ GE170.out) | exact HB.out)) hb); replace HO160 := n0_; replace HO164 := n1_; replace HO168 := n2_; have HO174 := n3_; replace BK153 := n4_; replace BK154 := n5_; replace BK170 := n6_; replace HB := n7_; clear n0_ n1_ n2_ n3_ n4_ n5_ n6_ n7_; (try clear hb); (try clear hb2); (try clear hk); (try clear hi); (try clear ho0)) | ((with_reducible refine gate_dst (N := 8) rfl ?_); refine box_event ?hg (N := 8) ?hd (cs := #[.int .i64 0, .slice none 0 0]) (t := 28) ?hr ?_; (case hd => rfl); (case hg => rfl); (case hr => first | (go_simp; done) | (go_simp; rfl)); intro gb175 hg w47 hbox hb; have n0_ := mk_ (Kd.R_below HO160.out hb); have n1_ := mk_ (Kd.R_below HO164.out hb); have n2_ := mk_ (Kd.R_below HO168.out hb); have n3_ := mk_ (Kd.R_below HO174.out hb); have n4_ := mk_ (blk_below BK153.out hb); have n5_ := mk_ (blk_below BK154.out hb); have n6_ := mk_ (blk_below BK170.out hb); have n7_ := mk_ (below_step (by repeat (first | (with_reducible first | exact HB.out | apply below_alloc | apply pw_below_drewN | apply below_drew1 | refine below_set ?_ GE153.out | refine below_set ?_ GE154.out | refine below_set ?_ GE170.out) | exact HB.out)) hb); have n8_ := mk_ (hbox); have n9_ := mk_ ((by rw [hg]; exact (below_size (by repeat (first | (with_reducible first | exact HB.out | apply below_alloc | apply pw_below_drewN | apply below_drew1 | refine below_set ?_ GE153.out | refine below_set ?_ GE154.out | refine below_set ?_ GE170.out) | exact HB.out))) : w.heap.size ≤ gb175)); have n10_ := mk_ ((by rw [hg]; exact (below_size (by repeat (first | (with_reducible first | exact HB.out | apply below_alloc | apply pw_below_drewN | apply below_drew1 | refine below_set ?_ GE153.out | refine below_set ?_ GE154.out | refine below_set ?_ GE170.out) | exact HB.out))) : w.heap.size ≤ gb175)); have n11_ := mk_ ((by rw [hg]; exact Nat.ne_of_lt (blk_lt BK153.out) : gb153 ≠ gb175)); have n12_ := mk_ ((by rw [hg]; exact Nat.ne_of_gt (blk_lt BK153.out) : gb175 ≠ gb153)); have n13_ := mk_ ((by rw [hg]; exact Nat.ne_of_lt (blk_lt BK154.out) : gb154 ≠ gb175)); have n14_ := mk_ ((by rw [hg]; exact Nat.ne_of_gt (blk_lt BK154.out) : gb175 ≠ gb154)); have n15_ := mk_ ((by rw [hg]; exact Nat.ne_of_lt (blk_lt BK170.out) : gb170 ≠ gb175)); have n16_ := mk_ ((by rw [hg]; exact Nat.ne_of_gt (blk_lt BK170.out) : gb175 ≠ gb170)); replace HO160 := n0_; replace HO164 := n1_; replace HO168 := n2_; replace HO174 := n3_; replace BK153 := n4_; replace BK154 := n5_; replace BK170 := n6_; replace HB := n7_; have BK175 := n8_; have GW175 := n9_; have GE175 := n10_; have NB153_175 := n11_; have NB175_153 := n12_; have NB154_175 := n13_; have NB175_154 := n14_; have NB170_175 := n15_; have NB175_170 := n16_; clear n0_ n1_ n2_ n3_ n4_ n5_ n6_ n7_ n8_ n9_ n10_ n11_ n12_ n13_ n14_ n15_ n16_; clear hb hbox hg; have hnb48 := NB175_153.out; have hnc48 := NB153_175.out; have hnb49 := NB175_154.out; have hnc49 := NB154_175.out; have hnb50 := NB175_170.out; have hnc50 := NB170_175.out; have hcz51_0 : w47.cell? ⟨gb175, 0, none⟩ = some (.int .i64 0) := b4_ BK175.out 0 rfl; have hcz51_1 : w47.cell? ⟨gb175, 1, none⟩ = some (.slice none 0 0) := b4_ BK175.out 1 rfl; have hfz51_0 := blk_frozen BK175.out 0; have hfz51_1 := blk_frozen BK175.out 1; obtain ⟨Ao52, co52, eo52⟩ := Kd.R_slice HO174.out; subst eo52; have hnb53 := NB154_170.out; have hnc53 := NB170_154.out; have hcz54_0 : w47.cell? ⟨gb154, 0, none⟩ = some (.int .i64 a1_0) := b4_ BK154.out 0 rfl; have hcz54_1 : w47.cell? ⟨gb154, 1, none⟩ = some (.slice A1_1 l1_1.length c1_1) := b4_ BK154.out 1 rfl; have hfz54_0 := blk_frozen BK154.out 0; have hfz54_1 := blk_frozen BK154.out 1) | ((with_reducible refine gate_callee (f := 18) rfl ?_); refine goesL_ (some 38) rfl rfl Try.func18 (by kernel_rfl) rfl #[.agg #[.int .i64 a1_0, .slice A1_1 l1_1.length c1_1]] rfl (by (try simp only [List.map_toArray, List.map_cons, List.map_nil]); first | done | rfl) ?_; (with_reducible refine (laws_toNet.calls k a1_0 _ _ l1_1 t176 t177 _ ?side1 ?side2 A23.out).mono ?_); (case side1 => exact Kd.C_below HR1_1.out (by repeat (first | (with_reducible first | exact HB.out | apply below_alloc | apply pw_below_drewN | apply below_drew1 | refine below_set ?_ GE153.out | refine below_set ?_ GE154.out | refine below_set ?_ GE170.out | refine below_set ?_ GE175.out) | exact HB.out))); (case side2 => exact HC1_1.out); rintro e w55 ⟨v178, rfl, ho0, hb⟩; refine ⟨_, rfl, ?_⟩; have n0_ := mk_ (Kd.R_elder' (Kd.R_mono (Kd.R_far (p := ⟨gb175, 1, none⟩) (Kd.R_far (p := ⟨gb175, 0, none⟩) (Kd.R_types HO160.out BK175.out (by decide)) (fun _ hk => by first | exact hk.2 | trivial) (.int .i64 t171)) (fun _ hk => by first | exact hk.2 | trivial) (.slice Ao52 t172.length co52)) (fun _ h_ => h_.1)) (Kd.R_base ho0) hb); have n1_ := mk_ (Kd.R_elder' (Kd.R_mono (Kd.R_far (p := ⟨gb175, 1, none⟩) (Kd.R_far (p := ⟨gb175, 0, none⟩) (Kd.R_types HO164.out BK175.out (by decide)) (fun _ hk => by first | exact hk.2 | trivial) (.int .i64 t171)) (fun _ hk => by first | exact hk.2 | trivial) (.slice Ao52 t172.length co52)) (fun _ h_ => h_.1)) (Kd.R_base ho0) hb); have n2_ := mk_ (Kd.R_elder' (Kd.R_mono (Kd.R_far (p := ⟨gb175, 1, none⟩) (Kd.R_far (p := ⟨gb175, 0, none⟩) (Kd.R_types HO168.out BK175.out (by decide)) (fun _ hk => by first | exact hk.2 | trivial) (.int .i64 t171)) (fun _ hk => by first | exact hk.2 | trivial) (.slice Ao52 t172.length co52)) (fun _ h_ => h_.1)) (Kd.R_base ho0) hb); have n3_ := mk_ (Kd.R_elder' (Kd.R_mono (Kd.R_far (p := ⟨gb175, 1, none⟩) (Kd.R_far (p := ⟨gb175, 0, none⟩) (Kd.R_types HO174.out BK175.out (by decide)) (fun _ hk => by first | exact hk.2 | trivial) (.int .i64 t171)) (fun _ hk => by first | exact hk.2 | trivial) (.slice Ao52 t172.length co52)) (fun _ h_ => h_.1)) (Kd.R_base ho0) hb); have n4_ := mk_ (Kd.R_lower (Kd.R_new' (Kd.R_new' (Kd.R_new' (Kd.R_new' ho0 (Kd.R_lt (by (with_reducible repeat (first | apply Kd.R_alloc | apply Kd.R_drewN | apply Kd.R_drew)); exact (Kd.R_mono (Kd.R_far (p := ⟨gb175, 1, none⟩) (Kd.R_far (p := ⟨gb175, 0, none⟩) (Kd.R_types HO160.out BK175.out (by decide)) (fun _ hk => by first | exact hk.2 | trivial) (.int .i64 t171)) (fun _ hk => by first | exact hk.2 | trivial) (.slice Ao52 t172.length co52)) (fun _ h_ => h_.1))))) (Kd.R_lt (by (with_reducible repeat (first | apply Kd.R_alloc | apply Kd.R_drewN | apply Kd.R_drew)); exact (Kd.R_mono (Kd.R_far (p := ⟨gb175, 1, none⟩) (Kd.R_far (p := ⟨gb175, 0, none⟩) (Kd.R_types HO164.out BK175.out (by decide)) (fun _ hk => by first | exact hk.2 | trivial) (.int .i64 t171)) (fun _ hk => by first | exact hk.2 | trivial) (.slice Ao52 t172.length co52)) (fun _ h_ => h_.1))))) (Kd.R_lt (by (with_reducible repeat (first | apply Kd.R_alloc | apply Kd.R_drewN | apply Kd.R_drew)); exact (Kd.R_mono (Kd.R_far (p := ⟨gb175, 1, none⟩) (Kd.R_far (p := ⟨gb175, 0, none⟩) (Kd.R_types HO168.out BK175.out (by decide)) (fun _ hk => by first | exact hk.2 | trivial) (.int .i64 t171)) (fun _ hk => by first | exact hk.2 | trivial) (.slice Ao52 t172.length co52)) (fun _ h_ => h_.1))))) (Kd.R_lt (by (with_reducible repeat (first | apply Kd.R_alloc | apply Kd.R_drewN | apply Kd.R_drew)); exact (Kd.R_mono (Kd.R_far (p := ⟨gb175, 1, none⟩) (Kd.R_far (p := ⟨gb175, 0, none⟩) (Kd.R_types HO174.out BK175.out (by decide)) (fun _ hk => by first | exact hk.2 | trivial) (.int .i64 t171)) (fun _ hk => by first | exact hk.2 | trivial) (.slice Ao52 t172.length co52)) (fun _ h_ => h_.1))))) (below_size (by repeat (first | (with_reducible first | exact HB.out | apply below_alloc | apply pw_below_drewN | apply below_drew1 | refine below_set ?_ GE153.out | refine below_set ?_ GE154.out | refine below_set ?_ GE170.out | refine below_set ?_ GE175.out) | exact HB.out)))); have n5_ := mk_ (blk_below (g := gb153) (o := .cells #[.int .i64 a0_0, .slice A0_1 l0_1.length c0_1] 37 (0, 0)) (by (with_reducible repeat (first | refine blk_drewN ?_ _ | refine blk_drew ?_ | refine blk_alloc ?_ _)); refine blk_far ?_ NB153_175.out _; (with_reducible repeat (first | refine blk_drewN ?_ _ | refine blk_drew ?_ | refine blk_alloc ?_ _)); refine blk_far ?_ NB153_175.out _; (with_reducible repeat (first | refine blk_drewN ?_ _ | refine blk_drew ?_ | refine blk_alloc ?_ _)); exact BK153.out) hb); have n6_ := mk_ (blk_below (g := gb154) (o := .cells #[.int .i64 a1_0, .slice A1_1 l1_1.length c1_1] 37 (0, 0)) (by (with_reducible repeat (first | refine blk_drewN ?_ _ | refine blk_drew ?_ | refine blk_alloc ?_ _)); refine blk_far ?_ NB154_175.out _; (with_reducible repeat (first | refine blk_drewN ?_ _ | refine blk_drew ?_ | refine blk_alloc ?_ _)); refine blk_far ?_ NB154_175.out _; (with_reducible repeat (first | refine blk_drewN ?_ _ | refine blk_drew ?_ | refine blk_alloc ?_ _)); exact BK154.out) hb); have n7_ := mk_ (blk_below (g := gb170) (o := .cells #[.int .i64 t165, .slice Ao42 t166.length co42] 28 (0, 0)) (by (with_reducible repeat (first | refine blk_drewN ?_ _ | refine blk_drew ?_ | refine blk_alloc ?_ _)); refine blk_far ?_ NB170_175.out _; (with_reducible repeat (first | refine blk_drewN ?_ _ | refine blk_drew ?_ | refine blk_alloc ?_ _)); refine blk_far ?_ NB170_175.out _; (with_reducible repeat (first | refine blk_drewN ?_ _ | refine blk_drew ?_ | refine blk_alloc ?_ _)); exact BK170.out) hb); have n8_ := mk_ (blk_below (g := gb175) (o := .cells #[.int .i64 t171, .slice Ao52 t172.length co52] 28 (0, 0)) (by (with_reducible repeat (first | refine blk_drewN ?_ _ | refine blk_drew ?_ | refine blk_alloc ?_ _)); refine blk_put (cs := #[.int .i64 t171, .slice none 0 0]) ?_ 1 _ rfl; (with_reducible repeat (first | refine blk_drewN ?_ _ | refine blk_drew ?_ | refine blk_alloc ?_ _)); refine blk_put (cs := #[.int .i64 0, .slice none 0 0]) ?_ 0 _ rfl; (with_reducible repeat (first | refine blk_drewN ?_ _ | refine blk_drew ?_ | refine blk_alloc ?_ _)); exact BK175.out) hb); have n9_ := mk_ (below_step (by repeat (first | (with_reducible first | exact HB.out | apply below_alloc | apply pw_below_drewN | apply below_drew1 | refine below_set ?_ GE153.out | refine below_set ?_ GE154.out | refine below_set ?_ GE170.out | refine below_set ?_ GE175.out) | exact HB.out)) hb); replace HO160 := n0_; replace HO164 := n1_; replace HO168 := n2_; replace HO174 := n3_; have HO179 := n4_; replace BK153 := n5_; replace BK154 := n6_; replace BK170 := n7_; replace BK175 := n8_; replace HB := n9_; clear n0_ n1_ n2_ n3_ n4_ n5_ n6_ n7_ n8_ n9_; (try clear hb); (try clear hb2); (try clear hk); (try clear hi); (try clear ho0)) | ((with_reducible refine gate_dst (N := 9) rfl ?_); refine box_event ?hg (N := 9) ?hd (cs := #[.int .i64 0, .slice none 0 0]) (t := 28) ?hr ?_; (case hd => rfl); (case hg => rfl); (case hr => first | (go_simp; done) | (go_simp; rfl)); intro gb180 hg w56 hbox hb; have n0_ := mk_ (Kd.R_below HO160.out hb); have n1_ := mk_ (Kd.R_below HO164.out hb); have n2_ := mk_ (Kd.R_below HO168.out hb); have n3_ := mk_ (Kd.R_below HO174.out hb); have n4_ := mk_ (Kd.R_below HO179.out hb); have n5_ := mk_ (blk_below BK153.out hb); have n6_ := mk_ (blk_below BK154.out hb); have n7_ := mk_ (blk_below BK170.out hb); have n8_ := mk_ (blk_below BK175.out hb); have n9_ := mk_ (below_step (by repeat (first | (with_reducible first | exact HB.out | apply below_alloc | apply pw_below_drewN | apply below_drew1 | refine below_set ?_ GE153.out | refine below_set ?_ GE154.out | refine below_set ?_ GE170.out | refine below_set ?_ GE175.out) | exact HB.out)) hb); have n10_ := mk_ (hbox); have n11_ := mk_ ((by rw [hg]; exact (below_size (by repeat (first | (with_reducible first | exact HB.out | apply below_alloc | apply pw_below_drewN | apply below_drew1 | refine below_set ?_ GE153.out | refine below_set ?_ GE154.out | refine below_set ?_ GE170.out | refine below_set ?_ GE175.out) | exact HB.out))) : w.heap.size ≤ gb180)); have n12_ := mk_ ((by rw [hg]; exact (below_size (by repeat (first | (with_reducible first | exact HB.out | apply below_alloc | apply pw_below_drewN | apply below_drew1 | refine below_set ?_ GE153.out | refine below_set ?_ GE154.out | refine below_set ?_ GE170.out | refine below_set ?_ GE175.out) | exact HB.out))) : w.heap.size ≤ gb180)); have n13_ := mk_ ((by rw [hg]; exact Nat.ne_of_lt (blk_lt BK153.out) : gb153 ≠ gb180)); have n14_ := mk_ ((by rw [hg]; exact Nat.ne_of_gt (blk_lt BK153.out) : gb180 ≠ gb153)); have n15_ := mk_ ((by rw [hg]; exact Nat.ne_of_lt (blk_lt BK154.out) : gb154 ≠ gb180)); have n16_ := mk_ ((by rw [hg]; exact Nat.ne_of_gt (blk_lt BK154.out) : gb180 ≠ gb154)); have n17_ := mk_ ((by rw [hg]; exact Nat.ne_of_lt (blk_lt BK170.out) : gb170 ≠ gb180)); have n18_ := mk_ ((by rw [hg]; exact Nat.ne_of_gt (blk_lt BK170.out) : gb180 ≠ gb170)); have n19_ := mk_ ((by rw [hg]; exact Nat.ne_of_lt (blk_lt BK175.out) : gb175 ≠ gb180)); have n20_ := mk_ ((by rw [hg]; exact Nat.ne_of_gt (blk_lt BK175.out) : gb180 ≠ gb175)); replace HO160 := n0_; replace HO164 := n1_; replace HO168 := n2_; replace HO174 := n3_; replace HO179 := n4_; replace BK153 := n5_; replace BK154 := n6_; replace BK170 := n7_; replace BK175 := n8_; replace HB := n9_; have BK180 := n10_; have GW180 := n11_; have GE180 := n12_; have NB153_180 := n13_; have NB180_153 := n14_; have NB154_180 := n15_; have NB180_154 := n16_; have NB170_180 := n17_; have NB180_170 := n18_; have NB175_180 := n19_; have NB180_175 := n20_; clear n0_ n1_ n2_ n3_ n4_ n5_ n6_ n7_ n8_ n9_ n10_ n11_ n12_ n13_ n14_ n15_ n16_ n17_ n18_ n19_ n20_; clear hb hbox hg; have hnb57 := NB180_153.out; have hnc57 := NB153_180.out; have hnb58 := NB180_154.out; have hnc58 := NB154_180.out; have hnb59 := NB180_170.out; have hnc59 := NB170_180.out; have hnb60 := NB180_175.out; have hnc60 := NB175_180.out; have hcz61_0 : w56.cell? ⟨gb180, 0, none⟩ = some (.int .i64 0) := b4_ BK180.out 0 rfl; have hcz61_1 : w56.cell? ⟨gb180, 1, none⟩ = some (.slice none 0 0) := b4_ BK180.out 1 rfl; have hfz61_0 := blk_frozen BK180.out 0; have hfz61_1 := blk_frozen BK180.out 1; obtain ⟨Ao62, co62, eo62⟩ := Kd.R_slice HO179.out; subst eo62; have hcz63_0 : w56.cell? ⟨gb175, 0, none⟩ = some (.int .i64 t171) := b4_ BK175.out 0 rfl; have hcz63_1 : w56.cell? ⟨gb175, 1, none⟩ = some (.slice Ao52 t172.length co52) := b4_ BK175.out 1 rfl; have hfz63_0 := blk_frozen BK175.out 0; have hfz63_1 := blk_frozen BK175.out 1) | ((with_reducible refine gate_callee (f := 19) rfl ?_); refine goesL_ (some 42) rfl rfl Try.func19 (by kernel_rfl) rfl #[.agg #[.int .i64 t171, .slice Ao52 t172.length co52], .agg #[.int .i64 t176, .slice Ao62 t177.length co62]] rfl (by (try simp only [List.map_toArray, List.map_cons, List.map_nil]); first | done | rfl) ?_; (with_reducible refine (impl_NetJoin.calls k t171 _ _ t172 t176 _ _ t177 t181 t182 t185 _ ?side1 ?side2 ?side3 ?side4 A24.out).mono ?_); (case side1 => refine (Kd.R_reads' (e := 55) (base := w.heap.size) (ok := fun k_ => ((((True ∧ some k_ ≠ (v159 : Value).ownBlock) ∧ some k_ ≠ (v163 : Value).ownBlock) ∧ some k_ ≠ (.slice Ao42 t166.length co42 : Value).ownBlock) ∧ some k_ ≠ (.slice Ao62 t177.length co62 : Value).ownBlock)) (n := t172.length) (c := co52) ?_).2.2; exact (by (with_reducible repeat (first | apply Kd.R_alloc | apply Kd.R_drewN | apply Kd.R_drew)); exact (Kd.R_mono (Kd.R_far (p := ⟨gb180, 1, none⟩) (Kd.R_far (p := ⟨gb180, 0, none⟩) (Kd.R_types HO174.out BK180.out (by decide)) (fun _ hk => by first | exact hk.2 | trivial) (.int .i64 t176)) (fun _ hk => by first | exact hk.2 | trivial) (.slice Ao62 t177.length co62)) (fun _ h_ => h_.1)))); (case side2 => exact (Kd.R_reads' HO174.out).2.1); (case side3 => refine (Kd.R_reads' (e := 55) (base := w.heap.size) (ok := fun k_ => ((((True ∧ some k_ ≠ (v159 : Value).ownBlock) ∧ some k_ ≠ (v163 : Value).ownBlock) ∧ some k_ ≠ (.slice Ao42 t166.length co42 : Value).ownBlock) ∧ some k_ ≠ (.slice Ao52 t172.length co52 : Value).ownBlock)) (n := t177.length) (c := co62) ?_).2.2; exact (by (with_reducible repeat (first | apply Kd.R_alloc | apply Kd.R_drewN | apply Kd.R_drew)); exact (Kd.R_mono (Kd.R_far (p := ⟨gb180, 1, none⟩) (Kd.R_far (p := ⟨gb180, 0, none⟩) (Kd.R_types HO179.out BK180.out (by decide)) (fun _ hk => by first | exact hk.2 | trivial) (.int .i64 t176)) (fun _ hk => by first | exact hk.2 | trivial) (.slice Ao62 t177.length co62)) (fun _ h_ => h_.1)))); (case side4 => exact (Kd.R_reads' HO179.out).2.1); rintro e w64 ⟨v183, rfl, ho0, hb⟩; refine ⟨_, rfl, ?_⟩; have n0_ := mk_ (Kd.R_elder' (Kd.R_mono (Kd.R_far (p := ⟨gb180, 1, none⟩) (Kd.R_far (p := ⟨gb180, 0, none⟩) (Kd.R_types HO160.out BK180.out (by decide)) (fun _ hk => by first | exact hk.2 | trivial) (.int .i64 t176)) (fun _ hk => by first | exact hk.2 | trivial) (.slice Ao62 t177.length co62)) (fun _ h_ => h_.1)) (Kd.R_base ho0) hb); have n1_ := mk_ (Kd.R_elder' (Kd.R_mono (Kd.R_far (p := ⟨gb180, 1, none⟩) (Kd.R_far (p := ⟨gb180, 0, none⟩) (Kd.R_types HO164.out BK180.out (by decide)) (fun _ hk => by first | exact hk.2 | trivial) (.int .i64 t176)) (fun _ hk => by first | exact hk.2 | trivial) (.slice Ao62 t177.length co62)) (fun _ h_ => h_.1)) (Kd.R_base ho0) hb); have n2_ := mk_ (Kd.R_elder' (Kd.R_mono (Kd.R_far (p := ⟨gb180, 1, none⟩) (Kd.R_far (p := ⟨gb180, 0, none⟩) (Kd.R_types HO168.out BK180.out (by decide)) (fun _ hk => by first | exact hk.2 | trivial) (.int .i64 t176)) (fun _ hk => by first | exact hk.2 | trivial) (.slice Ao62 t177.length co62)) (fun _ h_ => h_.1)) (Kd.R_base ho0) hb); have n3_ := mk_ (Kd.R_elder' (Kd.R_mono (Kd.R_far (p := ⟨gb180, 1, none⟩) (Kd.R_far (p := ⟨gb180, 0, none⟩) (Kd.R_types HO174.out BK180.out (by decide)) (fun _ hk => by first | exact hk.2 | trivial) (.int .i64 t176)) (fun _ hk => by first | exact hk.2 | trivial) (.slice Ao62 t177.length co62)) (fun _ h_ => h_.1)) (Kd.R_base ho0) hb); have n4_ := mk_ (Kd.R_elder' (Kd.R_mono (Kd.R_far (p := ⟨gb180, 1, none⟩) (Kd.R_far (p := ⟨gb180, 0, none⟩) (Kd.R_types HO179.out BK180.out (by decide)) (fun _ hk => by first | exact hk.2 | trivial) (.int .i64 t176)) (fun _ hk => by first | exact hk.2 | trivial) (.slice Ao62 t177.length co62)) (fun _ h_ => h_.1)) (Kd.R_base ho0) hb); have n5_ := mk_ (Kd.R_lower (Kd.R_new' (Kd.R_new' (Kd.R_new' (Kd.R_new' (Kd.R_new' ho0 (Kd.R_lt (by (with_reducible repeat (first | apply Kd.R_alloc | apply Kd.R_drewN | apply Kd.R_drew)); exact (Kd.R_mono (Kd.R_far (p := ⟨gb180, 1, none⟩) (Kd.R_far (p := ⟨gb180, 0, none⟩) (Kd.R_types HO160.out BK180.out (by decide)) (fun _ hk => by first | exact hk.2 | trivial) (.int .i64 t176)) (fun _ hk => by first | exact hk.2 | trivial) (.slice Ao62 t177.length co62)) (fun _ h_ => h_.1))))) (Kd.R_lt (by (with_reducible repeat (first | apply Kd.R_alloc | apply Kd.R_drewN | apply Kd.R_drew)); exact (Kd.R_mono (Kd.R_far (p := ⟨gb180, 1, none⟩) (Kd.R_far (p := ⟨gb180, 0, none⟩) (Kd.R_types HO164.out BK180.out (by decide)) (fun _ hk => by first | exact hk.2 | trivial) (.int .i64 t176)) (fun _ hk => by first | exact hk.2 | trivial) (.slice Ao62 t177.length co62)) (fun _ h_ => h_.1))))) (Kd.R_lt (by (with_reducible repeat (first | apply Kd.R_alloc | apply Kd.R_drewN | apply Kd.R_drew)); exact (Kd.R_mono (Kd.R_far (p := ⟨gb180, 1, none⟩) (Kd.R_far (p := ⟨gb180, 0, none⟩) (Kd.R_types HO168.out BK180.out (by decide)) (fun _ hk => by first | exact hk.2 | trivial) (.int .i64 t176)) (fun _ hk => by first | exact hk.2 | trivial) (.slice Ao62 t177.length co62)) (fun _ h_ => h_.1))))) (Kd.R_lt (by (with_reducible repeat (first | apply Kd.R_alloc | apply Kd.R_drewN | apply Kd.R_drew)); exact (Kd.R_mono (Kd.R_far (p := ⟨gb180, 1, none⟩) (Kd.R_far (p := ⟨gb180, 0, none⟩) (Kd.R_types HO174.out BK180.out (by decide)) (fun _ hk => by first | exact hk.2 | trivial) (.int .i64 t176)) (fun _ hk => by first | exact hk.2 | trivial) (.slice Ao62 t177.length co62)) (fun _ h_ => h_.1))))) (Kd.R_lt (by (with_reducible repeat (first | apply Kd.R_alloc | apply Kd.R_drewN | apply Kd.R_drew)); exact (Kd.R_mono (Kd.R_far (p := ⟨gb180, 1, none⟩) (Kd.R_far (p := ⟨gb180, 0, none⟩) (Kd.R_types HO179.out BK180.out (by decide)) (fun _ hk => by first | exact hk.2 | trivial) (.int .i64 t176)) (fun _ hk => by first | exact hk.2 | trivial) (.slice Ao62 t177.length co62)) (fun _ h_ => h_.1))))) (below_size (by repeat (first | (with_reducible first | exact HB.out | apply below_alloc | apply pw_below_drewN | apply below_drew1 | refine below_set ?_ GE153.out | refine below_set ?_ GE154.out | refine below_set ?_ GE170.out | refine below_set ?_ GE175.out | refine below_set ?_ GE180.out) | exact HB.out)))); have n6_ := mk_ (blk_below (g := gb153) (o := .cells #[.int .i64 a0_0, .slice A0_1 l0_1.length c0_1] 37 (0, 0)) (by (with_reducible repeat (first | refine blk_drewN ?_ _ | refine blk_drew ?_ | refine blk_alloc ?_ _)); refine blk_far ?_ NB153_180.out _; (with_reducible repeat (first | refine blk_drewN ?_ _ | refine blk_drew ?_ | refine blk_alloc ?_ _)); refine blk_far ?_ NB153_180.out _; (with_reducible repeat (first | refine blk_drewN ?_ _ | refine blk_drew ?_ | refine blk_alloc ?_ _)); exact BK153.out) hb); have n7_ := mk_ (blk_below (g := gb154) (o := .cells #[.int .i64 a1_0, .slice A1_1 l1_1.length c1_1] 37 (0, 0)) (by (with_reducible repeat (first | refine blk_drewN ?_ _ | refine blk_drew ?_ | refine blk_alloc ?_ _)); refine blk_far ?_ NB154_180.out _; (with_reducible repeat (first | refine blk_drewN ?_ _ | refine blk_drew ?_ | refine blk_alloc ?_ _)); refine blk_far ?_ NB154_180.out _; (with_reducible repeat (first | refine blk_drewN ?_ _ | refine blk_drew ?_ | refine blk_alloc ?_ _)); exact BK154.out) hb); have n8_ := mk_ (blk_below (g := gb170) (o := .cells #[.int .i64 t165, .slice Ao42 t166.length co42] 28 (0, 0)) (by (with_reducible repeat (first | refine blk_drewN ?_ _ | refine blk_drew ?_ | refine blk_alloc ?_ _)); refine blk_far ?_ NB170_180.out _; (with_reducible repeat (first | refine blk_drewN ?_ _ | refine blk_drew ?_ | refine blk_alloc ?_ _)); refine blk_far ?_ NB170_180.out _; (with_reducible repeat (first | refine blk_drewN ?_ _ | refine blk_drew ?_ | refine blk_alloc ?_ _)); exact BK170.out) hb); have n9_ := mk_ (blk_below (g := gb175) (o := .cells #[.int .i64 t171, .slice Ao52 t172.length co52] 28 (0, 0)) (by (with_reducible repeat (first | refine blk_drewN ?_ _ | refine blk_drew ?_ | refine blk_alloc ?_ _)); refine blk_far ?_ NB175_180.out _; (with_reducible repeat (first | refine blk_drewN ?_ _ | refine blk_drew ?_ | refine blk_alloc ?_ _)); refine blk_far ?_ NB175_180.out _; (with_reducible repeat (first | refine blk_drewN ?_ _ | refine blk_drew ?_ | refine blk_alloc ?_ _)); exact BK175.out) hb); have n10_ := mk_ (blk_below (g := gb180) (o := .cells #[.int .i64 t176, .slice Ao62 t177.length co62] 28 (0, 0)) (by (with_reducible repeat (first | refine blk_drewN ?_ _ | refine blk_drew ?_ | refine blk_alloc ?_ _)); refine blk_put (cs := #[.int .i64 t176, .slice none 0 0]) ?_ 1 _ rfl; (with_reducible repeat (first | refine blk_drewN ?_ _ | refine blk_drew ?_ | refine blk_alloc ?_ _)); refine blk_put (cs := #[.int .i64 0, .slice none 0 0]) ?_ 0 _ rfl; (with_reducible repeat (first | refine blk_drewN ?_ _ | refine blk_drew ?_ | refine blk_alloc ?_ _)); exact BK180.out) hb); have n11_ := mk_ (below_step (by repeat (first | (with_reducible first | exact HB.out | apply below_alloc | apply pw_below_drewN | apply below_drew1 | refine below_set ?_ GE153.out | refine below_set ?_ GE154.out | refine below_set ?_ GE170.out | refine below_set ?_ GE175.out | refine below_set ?_ GE180.out) | exact HB.out)) hb); replace HO160 := n0_; replace HO164 := n1_; replace HO168 := n2_; replace HO174 := n3_; replace HO179 := n4_; have HO184 := n5_; replace BK153 := n6_; replace BK154 := n7_; replace BK170 := n8_; replace BK175 := n9_; replace BK180 := n10_; replace HB := n11_; clear n0_ n1_ n2_ n3_ n4_ n5_ n6_ n7_ n8_ n9_ n10_ n11_; (try clear hb); (try clear hb2); (try clear hk); (try clear hi); (try clear ho0)) | ((with_reducible refine gate_dst (N := 10) rfl ?_); refine box_event ?hg (N := 10) ?hd (cs := #[.int .i64 0, .slice none 0 0]) (t := 28) ?hr ?_; (case hd => rfl); (case hg => rfl); (case hr => first | (go_simp; done) | (go_simp; rfl)); intro gb186 hg w65 hbox hb; have n0_ := mk_ (Kd.R_below HO160.out hb); have n1_ := mk_ (Kd.R_below HO164.out hb); have n2_ := mk_ (Kd.R_below HO168.out hb); have n3_ := mk_ (Kd.R_below HO174.out hb); have n4_ := mk_ (Kd.R_below HO179.out hb); have n5_ := mk_ (Kd.R_below HO184.out hb); have n6_ := mk_ (blk_below BK153.out hb); have n7_ := mk_ (blk_below BK154.out hb); have n8_ := mk_ (blk_below BK170.out hb); have n9_ := mk_ (blk_below BK175.out hb); have n10_ := mk_ (blk_below BK180.out hb); have n11_ := mk_ (below_step (by repeat (first | (with_reducible first | exact HB.out | apply below_alloc | apply pw_below_drewN | apply below_drew1 | refine below_set ?_ GE153.out | refine below_set ?_ GE154.out | refine below_set ?_ GE170.out | refine below_set ?_ GE175.out | refine below_set ?_ GE180.out) | exact HB.out)) hb); have n12_ := mk_ (hbox); have n13_ := mk_ ((by rw [hg]; exact (below_size (by repeat (first | (with_reducible first | exact HB.out | apply below_alloc | apply pw_below_drewN | apply below_drew1 | refine below_set ?_ GE153.out | refine below_set ?_ GE154.out | refine below_set ?_ GE170.out | refine below_set ?_ GE175.out | refine below_set ?_ GE180.out) | exact HB.out))) : w.heap.size ≤ gb186)); have n14_ := mk_ ((by rw [hg]; exact (below_size (by repeat (first | (with_reducible first | exact HB.out | apply below_alloc | apply pw_below_drewN | apply below_drew1 | refine below_set ?_ GE153.out | refine below_set ?_ GE154.out | refine below_set ?_ GE170.out | refine below_set ?_ GE175.out | refine below_set ?_ GE180.out) | exact HB.out))) : w.heap.size ≤ gb186)); have n15_ := mk_ ((by rw [hg]; exact Nat.ne_of_lt (blk_lt BK153.out) : gb153 ≠ gb186)); have n16_ := mk_ ((by rw [hg]; exact Nat.ne_of_gt (blk_lt BK153.out) : gb186 ≠ gb153)); have n17_ := mk_ ((by rw [hg]; exact Nat.ne_of_lt (blk_lt BK154.out) : gb154 ≠ gb186)); have n18_ := mk_ ((by rw [hg]; exact Nat.ne_of_gt (blk_lt BK154.out) : gb186 ≠ gb154)); have n19_ := mk_ ((by rw [hg]; exact Nat.ne_of_lt (blk_lt BK170.out) : gb170 ≠ gb186)); have n20_ := mk_ ((by rw [hg]; exact Nat.ne_of_gt (blk_lt BK170.out) : gb186 ≠ gb170)); have n21_ := mk_ ((by rw [hg]; exact Nat.ne_of_lt (blk_lt BK175.out) : gb175 ≠ gb186)); have n22_ := mk_ ((by rw [hg]; exact Nat.ne_of_gt (blk_lt BK175.out) : gb186 ≠ gb175)); have n23_ := mk_ ((by rw [hg]; exact Nat.ne_of_lt (blk_lt BK180.out) : gb180 ≠ gb186)); have n24_ := mk_ ((by rw [hg]; exact Nat.ne_of_gt (blk_lt BK180.out) : gb186 ≠ gb180)); replace HO160 := n0_; replace HO164 := n1_; replace HO168 := n2_; replace HO174 := n3_; replace HO179 := n4_; replace HO184 := n5_; replace BK153 := n6_; replace BK154 := n7_; replace BK170 := n8_; replace BK175 := n9_; replace BK180 := n10_; replace HB := n11_; have BK186 := n12_; have GW186 := n13_; have GE186 := n14_; have NB153_186 := n15_; have NB186_153 := n16_; have NB154_186 := n17_; have NB186_154 := n18_; have NB170_186 := n19_; have NB186_170 := n20_; have NB175_186 := n21_; have NB186_175 := n22_; have NB180_186 := n23_; have NB186_180 := n24_; clear n0_ n1_ n2_ n3_ n4_ n5_ n6_ n7_ n8_ n9_ n10_ n11_ n12_ n13_ n14_ n15_ n16_ n17_ n18_ n19_ n20_ n21_ n22_ n23_ n24_; clear hb hbox hg; have hnb66 := NB186_153.out; have hnc66 := NB153_186.out; have hnb67 := NB186_154.out; have hnc67 := NB154_186.out; have hnb68 := NB186_170.out; have hnc68 := NB170_186.out; have hnb69 := NB186_175.out; have hnc69 := NB175_186.out; have hnb70 := NB186_180.out; have hnc70 := NB180_186.out; have hcz71_0 : w65.cell? ⟨gb186, 0, none⟩ = some (.int .i64 0) := b4_ BK186.out 0 rfl; have hcz71_1 : w65.cell? ⟨gb186, 1, none⟩ = some (.slice none 0 0) := b4_ BK186.out 1 rfl; have hfz71_0 := blk_frozen BK186.out 0; have hfz71_1 := blk_frozen BK186.out 1; obtain ⟨Ao72, co72, eo72⟩ := Kd.R_slice HO184.out; subst eo72))
 (try simp only [Act.put, List.setIfInBounds_toArray, List.set_cons_zero, List.set_cons_succ])
 go_cut [53] (fun v53 wc => ∃ (kq : Nat) (x53_24 : Bool), v53 = .bool x53_24 ∧ Aside0 (laws_FnExactNetJoin.j0 kq t169 t185 x53_24 a0_0 l0_1 a1_0 l1_1 t165 t166 t171 t172 t176 t177 t181 t182 = some r) ∧ Aside0 (kq ≤ k) ∧ Aside0 (Kd.R k55 55 wc w.heap.size (fun k_ => some k_ ≠ ((.slice Ao52 t172.length co52) : Value).ownBlock ∧ some k_ ≠ ((.slice Ao62 t177.length co62) : Value).ownBlock ∧ some k_ ≠ ((.slice Ao72 t182.length co72) : Value).ownBlock) (.slice Ao42 t166.length co42) t166) ∧ Aside0 (Kd.R k55 55 wc w.heap.size (fun k_ => some k_ ≠ ((.slice Ao42 t166.length co42) : Value).ownBlock ∧ some k_ ≠ ((.slice Ao62 t177.length co62) : Value).ownBlock ∧ some k_ ≠ ((.slice Ao72 t182.length co72) : Value).ownBlock) (.slice Ao52 t172.length co52) t172) ∧ Aside0 (Kd.R k55 55 wc w.heap.size (fun k_ => some k_ ≠ ((.slice Ao42 t166.length co42) : Value).ownBlock ∧ some k_ ≠ ((.slice Ao52 t172.length co52) : Value).ownBlock ∧ some k_ ≠ ((.slice Ao72 t182.length co72) : Value).ownBlock) (.slice Ao62 t177.length co62) t177) ∧ Aside0 (Kd.R k55 55 wc w.heap.size (fun k_ => some k_ ≠ ((.slice Ao42 t166.length co42) : Value).ownBlock ∧ some k_ ≠ ((.slice Ao52 t172.length co52) : Value).ownBlock ∧ some k_ ≠ ((.slice Ao62 t177.length co62) : Value).ownBlock) (.slice Ao72 t182.length co72) t182) ∧ Aside0 (wc.heap[gb153]? = some (.cells #[.int .i64 a0_0, (.slice A0_1 l0_1.length c0_1)] 37 (0, 0))) ∧ Aside0 (wc.heap[gb154]? = some (.cells #[.int .i64 a1_0, (.slice A1_1 l1_1.length c1_1)] 37 (0, 0))) ∧ Aside0 (wc.heap[gb170]? = some (.cells #[.int .i64 t165, (.slice Ao42 t166.length co42)] 28 (0, 0))) ∧ Aside0 (wc.heap[gb175]? = some (.cells #[.int .i64 t171, (.slice Ao52 t172.length co52)] 28 (0, 0))) ∧ Aside0 (wc.heap[gb180]? = some (.cells #[.int .i64 t176, (.slice Ao62 t177.length co62)] 28 (0, 0))) ∧ Aside0 (wc.heap[gb186]? = some (.cells #[.int .i64 t181, (.slice Ao72 t182.length co72)] 28 (0, 0))) ∧ Aside0 (Below w.heap.size w wc))
 case first =>
  have H := HC25.out
  clear HC25
  replace H := Option.bind_eq_some_iff.mp H
  obtain ⟨t187, A730, H⟩ := H
  replace H : (if t187 = true then (laws_FnExactNetJoin.j0 k t169 t185 (t185 != t169) a0_0 l0_1 a1_0 l1_1 t165 t166 t171 t172 t176 t177 t181 t182) else (laws_FnExactNetJoin.j0 k t169 t185 true a0_0 l0_1 a1_0 l1_1 t165 t166 t171 t172 t176 t177 t181 t182)) = some r := H
  have A73 := mk_ A730
  clear A730
  by_cases c74 : t187 = true
  ·
   subst c74
   have H1 : (laws_FnExactNetJoin.j0 k t169 t185 (t185 != t169) a0_0 l0_1 a1_0 l1_1 t165 t166 t171 t172 t176 t177 t181 t182) = some r := by rw [if_pos rfl] at H; exact H
   clear H
   have H := H1
   clear H1
   have H' := mk_ H
   clear H
   have hnb75 := NB186_153.out
   have hnc75 := NB153_186.out
   have hnb76 := NB186_154.out
   have hnc76 := NB154_186.out
   have hnb77 := NB186_170.out
   have hnc77 := NB170_186.out
   have hnb78 := NB186_175.out
   have hnc78 := NB175_186.out
   have hnb79 := NB186_180.out
   have hnc79 := NB180_186.out
   have hcz80_0 : w65.cell? ⟨gb186, 0, none⟩ = some (.int .i64 0) := b4_ BK186.out 0 rfl
   have hcz80_1 : w65.cell? ⟨gb186, 1, none⟩ = some (.slice none 0 0) := b4_ BK186.out 1 rfl
   have hfz80_0 := blk_frozen BK186.out 0
   have hfz80_1 := blk_frozen BK186.out 1
   have hnb81 := NB170_153.out
   have hnc81 := NB153_170.out
   have hnb82 := NB170_154.out
   have hnc82 := NB154_170.out
   have hnb83 := NB170_175.out
   have hnc83 := NB175_170.out
   have hnb84 := NB170_180.out
   have hnc84 := NB180_170.out
   have hcz85_0 : w65.cell? ⟨gb170, 0, none⟩ = some (.int .i64 t165) := b4_ BK170.out 0 rfl
   have hcz85_1 : w65.cell? ⟨gb170, 1, none⟩ = some (.slice Ao42 t166.length co42) := b4_ BK170.out 1 rfl
   have hfz85_0 := blk_frozen BK170.out 0
   have hfz85_1 := blk_frozen BK170.out 1
   go_wp2_with (first | ((with_reducible refine gate_callee (f := 20) rfl ?_); refine goesL_ (some 47) rfl rfl Try.func20 (by kernel_rfl) rfl #[.agg #[.int .i64 t181, .slice Ao72 t182.length co72], .agg #[.int .i64 t165, .slice Ao42 t166.length co42]] rfl (by (try simp only [List.map_toArray, List.map_cons, List.map_nil]); first | done | rfl) ?_; (with_reducible refine (laws_eqNet.calls k t181 _ _ t182 t165 _ _ t166 true _ ?side1 ?side2 ?side3 ?side4 A73.out).mono ?_); (case side1 => refine (Kd.R_reads' (e := 55) (base := w.heap.size) (ok := fun k_ => (((((True ∧ some k_ ≠ (v159 : Value).ownBlock) ∧ some k_ ≠ (v163 : Value).ownBlock) ∧ some k_ ≠ (.slice Ao42 t166.length co42 : Value).ownBlock) ∧ some k_ ≠ (.slice Ao52 t172.length co52 : Value).ownBlock) ∧ some k_ ≠ (.slice Ao62 t177.length co62 : Value).ownBlock)) (n := t182.length) (c := co72) ?_).2.2; exact (by (with_reducible repeat (first | apply Kd.R_alloc | apply Kd.R_drewN | apply Kd.R_drew)); exact (Kd.R_mono (Kd.R_far (p := ⟨gb186, 1, none⟩) (Kd.R_far (p := ⟨gb186, 0, none⟩) (Kd.R_types HO184.out BK186.out (by decide)) (fun _ hk => by first | exact hk.2 | trivial) (.int .i64 t181)) (fun _ hk => by first | exact hk.2 | trivial) (.slice Ao72 t182.length co72)) (fun _ h_ => h_.1)))); (case side2 => exact (Kd.R_reads' HO184.out).2.1); (case side3 => refine (Kd.R_reads' (e := 55) (base := w.heap.size) (ok := fun k_ => ((((some k_ ≠ (v159 : Value).ownBlock ∧ some k_ ≠ (v163 : Value).ownBlock) ∧ some k_ ≠ (.slice Ao52 t172.length co52 : Value).ownBlock) ∧ some k_ ≠ (.slice Ao62 t177.length co62 : Value).ownBlock) ∧ some k_ ≠ (.slice Ao72 t182.length co72 : Value).ownBlock)) (n := t166.length) (c := co42) ?_).2.2; exact (by (with_reducible repeat (first | apply Kd.R_alloc | apply Kd.R_drewN | apply Kd.R_drew)); exact (Kd.R_mono (Kd.R_far (p := ⟨gb186, 1, none⟩) (Kd.R_far (p := ⟨gb186, 0, none⟩) (Kd.R_types HO168.out BK186.out (by decide)) (fun _ hk => by first | exact hk.2 | trivial) (.int .i64 t181)) (fun _ hk => by first | exact hk.2 | trivial) (.slice Ao72 t182.length co72)) (fun _ h_ => h_.1)))); (case side4 => exact (Kd.R_reads' HO168.out).2.1); rintro e w86 ⟨rfl, hb⟩; refine ⟨_, rfl, ?_⟩; have n0_ := mk_ (Kd.R_below (Kd.R_mono (Kd.R_far (p := ⟨gb186, 1, none⟩) (Kd.R_far (p := ⟨gb186, 0, none⟩) (Kd.R_types HO160.out BK186.out (by decide)) (fun _ hk => by first | exact hk.2 | trivial) (.int .i64 t181)) (fun _ hk => by first | exact hk.2 | trivial) (.slice Ao72 t182.length co72)) (fun _ h_ => h_.1)) hb); have n1_ := mk_ (Kd.R_below (Kd.R_mono (Kd.R_far (p := ⟨gb186, 1, none⟩) (Kd.R_far (p := ⟨gb186, 0, none⟩) (Kd.R_types HO164.out BK186.out (by decide)) (fun _ hk => by first | exact hk.2 | trivial) (.int .i64 t181)) (fun _ hk => by first | exact hk.2 | trivial) (.slice Ao72 t182.length co72)) (fun _ h_ => h_.1)) hb); have n2_ := mk_ (Kd.R_below (Kd.R_mono (Kd.R_far (p := ⟨gb186, 1, none⟩) (Kd.R_far (p := ⟨gb186, 0, none⟩) (Kd.R_types HO168.out BK186.out (by decide)) (fun _ hk => by first | exact hk.2 | trivial) (.int .i64 t181)) (fun _ hk => by first | exact hk.2 | trivial) (.slice Ao72 t182.length co72)) (fun _ h_ => h_.1)) hb); have n3_ := mk_ (Kd.R_below (Kd.R_mono (Kd.R_far (p := ⟨gb186, 1, none⟩) (Kd.R_far (p := ⟨gb186, 0, none⟩) (Kd.R_types HO174.out BK186.out (by decide)) (fun _ hk => by first | exact hk.2 | trivial) (.int .i64 t181)) (fun _ hk => by first | exact hk.2 | trivial) (.slice Ao72 t182.length co72)) (fun _ h_ => h_.1)) hb); have n4_ := mk_ (Kd.R_below (Kd.R_mono (Kd.R_far (p := ⟨gb186, 1, none⟩) (Kd.R_far (p := ⟨gb186, 0, none⟩) (Kd.R_types HO179.out BK186.out (by decide)) (fun _ hk => by first | exact hk.2 | trivial) (.int .i64 t181)) (fun _ hk => by first | exact hk.2 | trivial) (.slice Ao72 t182.length co72)) (fun _ h_ => h_.1)) hb); have n5_ := mk_ (Kd.R_below (Kd.R_mono (Kd.R_far (p := ⟨gb186, 1, none⟩) (Kd.R_far (p := ⟨gb186, 0, none⟩) (Kd.R_types HO184.out BK186.out (by decide)) (fun _ hk => by first | exact hk.2 | trivial) (.int .i64 t181)) (fun _ hk => by first | exact hk.2 | trivial) (.slice Ao72 t182.length co72)) (fun _ h_ => h_.1)) hb); have n6_ := mk_ (blk_below (g := gb153) (o := .cells #[.int .i64 a0_0, .slice A0_1 l0_1.length c0_1] 37 (0, 0)) (by (with_reducible repeat (first | refine blk_drewN ?_ _ | refine blk_drew ?_ | refine blk_alloc ?_ _)); refine blk_far ?_ NB153_186.out _; (with_reducible repeat (first | refine blk_drewN ?_ _ | refine blk_drew ?_ | refine blk_alloc ?_ _)); refine blk_far ?_ NB153_186.out _; (with_reducible repeat (first | refine blk_drewN ?_ _ | refine blk_drew ?_ | refine blk_alloc ?_ _)); exact BK153.out) hb); have n7_ := mk_ (blk_below (g := gb154) (o := .cells #[.int .i64 a1_0, .slice A1_1 l1_1.length c1_1] 37 (0, 0)) (by (with_reducible repeat (first | refine blk_drewN ?_ _ | refine blk_drew ?_ | refine blk_alloc ?_ _)); refine blk_far ?_ NB154_186.out _; (with_reducible repeat (first | refine blk_drewN ?_ _ | refine blk_drew ?_ | refine blk_alloc ?_ _)); refine blk_far ?_ NB154_186.out _; (with_reducible repeat (first | refine blk_drewN ?_ _ | refine blk_drew ?_ | refine blk_alloc ?_ _)); exact BK154.out) hb); have n8_ := mk_ (blk_below (g := gb170) (o := .cells #[.int .i64 t165, .slice Ao42 t166.length co42] 28 (0, 0)) (by (with_reducible repeat (first | refine blk_drewN ?_ _ | refine blk_drew ?_ | refine blk_alloc ?_ _)); refine blk_far ?_ NB170_186.out _; (with_reducible repeat (first | refine blk_drewN ?_ _ | refine blk_drew ?_ | refine blk_alloc ?_ _)); refine blk_far ?_ NB170_186.out _; (with_reducible repeat (first | refine blk_drewN ?_ _ | refine blk_drew ?_ | refine blk_alloc ?_ _)); exact BK170.out) hb); have n9_ := mk_ (blk_below (g := gb175) (o := .cells #[.int .i64 t171, .slice Ao52 t172.length co52] 28 (0, 0)) (by (with_reducible repeat (first | refine blk_drewN ?_ _ | refine blk_drew ?_ | refine blk_alloc ?_ _)); refine blk_far ?_ NB175_186.out _; (with_reducible repeat (first | refine blk_drewN ?_ _ | refine blk_drew ?_ | refine blk_alloc ?_ _)); refine blk_far ?_ NB175_186.out _; (with_reducible repeat (first | refine blk_drewN ?_ _ | refine blk_drew ?_ | refine blk_alloc ?_ _)); exact BK175.out) hb); have n10_ := mk_ (blk_below (g := gb180) (o := .cells #[.int .i64 t176, .slice Ao62 t177.length co62] 28 (0, 0)) (by (with_reducible repeat (first | refine blk_drewN ?_ _ | refine blk_drew ?_ | refine blk_alloc ?_ _)); refine blk_far ?_ NB180_186.out _; (with_reducible repeat (first | refine blk_drewN ?_ _ | refine blk_drew ?_ | refine blk_alloc ?_ _)); refine blk_far ?_ NB180_186.out _; (with_reducible repeat (first | refine blk_drewN ?_ _ | refine blk_drew ?_ | refine blk_alloc ?_ _)); exact BK180.out) hb); have n11_ := mk_ (blk_below (g := gb186) (o := .cells #[.int .i64 t181, .slice Ao72 t182.length co72] 28 (0, 0)) (by (with_reducible repeat (first | refine blk_drewN ?_ _ | refine blk_drew ?_ | refine blk_alloc ?_ _)); refine blk_put (cs := #[.int .i64 t181, .slice none 0 0]) ?_ 1 _ rfl; (with_reducible repeat (first | refine blk_drewN ?_ _ | refine blk_drew ?_ | refine blk_alloc ?_ _)); refine blk_put (cs := #[.int .i64 0, .slice none 0 0]) ?_ 0 _ rfl; (with_reducible repeat (first | refine blk_drewN ?_ _ | refine blk_drew ?_ | refine blk_alloc ?_ _)); exact BK186.out) hb); have n12_ := mk_ (below_step (by repeat (first | (with_reducible first | exact HB.out | apply below_alloc | apply pw_below_drewN | apply below_drew1 | refine below_set ?_ GE153.out | refine below_set ?_ GE154.out | refine below_set ?_ GE170.out | refine below_set ?_ GE175.out | refine below_set ?_ GE180.out | refine below_set ?_ GE186.out) | exact HB.out)) hb); replace HO160 := n0_; replace HO164 := n1_; replace HO168 := n2_; replace HO174 := n3_; replace HO179 := n4_; replace HO184 := n5_; replace BK153 := n6_; replace BK154 := n7_; replace BK170 := n8_; replace BK175 := n9_; replace BK180 := n10_; replace BK186 := n11_; replace HB := n12_; clear n0_ n1_ n2_ n3_ n4_ n5_ n6_ n7_ n8_ n9_ n10_ n11_ n12_; (try clear hb); (try clear hb2); (try clear hk); (try clear hi)))
   go_meet
   case rel => exact ⟨_, ((t185 != t169)), (by first | rfl | (simp; done) | (simp [*]; done)), H', ⟨by first | omega | exact Nat.le_refl _⟩, ⟨by (with_reducible repeat (first | apply Kd.R_alloc | apply Kd.R_drewN | apply Kd.R_drew)); exact Kd.R_mono HO168.out (fun _ hk => ⟨hk.1.1.2, ⟨hk.1.2, hk.2⟩⟩)⟩, ⟨by (with_reducible repeat (first | apply Kd.R_alloc | apply Kd.R_drewN | apply Kd.R_drew)); exact Kd.R_mono HO174.out (fun _ hk => ⟨hk.1.1.2, ⟨hk.1.2, hk.2⟩⟩)⟩, ⟨by (with_reducible repeat (first | apply Kd.R_alloc | apply Kd.R_drewN | apply Kd.R_drew)); exact Kd.R_mono HO179.out (fun _ hk => ⟨hk.1.1.2, ⟨hk.1.2, hk.2⟩⟩)⟩, ⟨by (with_reducible repeat (first | apply Kd.R_alloc | apply Kd.R_drewN | apply Kd.R_drew)); exact Kd.R_mono HO184.out (fun _ hk => ⟨hk.1.1.2, ⟨hk.1.2, hk.2⟩⟩)⟩, ⟨by (with_reducible repeat (first | refine blk_drewN ?_ _ | refine blk_drew ?_ | refine blk_alloc ?_ _)); exact BK153.out⟩, ⟨by (with_reducible repeat (first | refine blk_drewN ?_ _ | refine blk_drew ?_ | refine blk_alloc ?_ _)); exact BK154.out⟩, ⟨by (with_reducible repeat (first | refine blk_drewN ?_ _ | refine blk_drew ?_ | refine blk_alloc ?_ _)); exact BK170.out⟩, ⟨by (with_reducible repeat (first | refine blk_drewN ?_ _ | refine blk_drew ?_ | refine blk_alloc ?_ _)); exact BK175.out⟩, ⟨by (with_reducible repeat (first | refine blk_drewN ?_ _ | refine blk_drew ?_ | refine blk_alloc ?_ _)); exact BK180.out⟩, ⟨by (with_reducible repeat (first | refine blk_drewN ?_ _ | refine blk_drew ?_ | refine blk_alloc ?_ _)); exact BK186.out⟩, ⟨by repeat (first | (with_reducible first | exact HB.out | apply below_alloc | apply pw_below_drewN | apply below_drew1 | refine below_set ?_ GE153.out | refine below_set ?_ GE154.out | refine below_set ?_ GE170.out | refine below_set ?_ GE175.out | refine below_set ?_ GE180.out | refine below_set ?_ GE186.out) | exact HB.out)⟩⟩
  replace c74 := Bool.eq_false_iff.mpr c74
  subst c74
  have H1 : (laws_FnExactNetJoin.j0 k t169 t185 true a0_0 l0_1 a1_0 l1_1 t165 t166 t171 t172 t176 t177 t181 t182) = some r := by rw [if_neg (show ¬ (false = true) by decide)] at H; exact H
  clear H
  have H := H1
  clear H1
  have H' := mk_ H
  clear H
  have hnb87 := NB186_153.out
  have hnc87 := NB153_186.out
  have hnb88 := NB186_154.out
  have hnc88 := NB154_186.out
  have hnb89 := NB186_170.out
  have hnc89 := NB170_186.out
  have hnb90 := NB186_175.out
  have hnc90 := NB175_186.out
  have hnb91 := NB186_180.out
  have hnc91 := NB180_186.out
  have hcz92_0 : w65.cell? ⟨gb186, 0, none⟩ = some (.int .i64 0) := b4_ BK186.out 0 rfl
  have hcz92_1 : w65.cell? ⟨gb186, 1, none⟩ = some (.slice none 0 0) := b4_ BK186.out 1 rfl
  have hfz92_0 := blk_frozen BK186.out 0
  have hfz92_1 := blk_frozen BK186.out 1
  have hnb93 := NB170_153.out
  have hnc93 := NB153_170.out
  have hnb94 := NB170_154.out
  have hnc94 := NB154_170.out
  have hnb95 := NB170_175.out
  have hnc95 := NB175_170.out
  have hnb96 := NB170_180.out
  have hnc96 := NB180_170.out
  have hcz97_0 : w65.cell? ⟨gb170, 0, none⟩ = some (.int .i64 t165) := b4_ BK170.out 0 rfl
  have hcz97_1 : w65.cell? ⟨gb170, 1, none⟩ = some (.slice Ao42 t166.length co42) := b4_ BK170.out 1 rfl
  have hfz97_0 := blk_frozen BK170.out 0
  have hfz97_1 := blk_frozen BK170.out 1
  go_wp2_with (first | ((with_reducible refine gate_callee (f := 20) rfl ?_); refine goesL_ (some 47) rfl rfl Try.func20 (by kernel_rfl) rfl #[.agg #[.int .i64 t181, .slice Ao72 t182.length co72], .agg #[.int .i64 t165, .slice Ao42 t166.length co42]] rfl (by (try simp only [List.map_toArray, List.map_cons, List.map_nil]); first | done | rfl) ?_; (with_reducible refine (laws_eqNet.calls k t181 _ _ t182 t165 _ _ t166 false _ ?side1 ?side2 ?side3 ?side4 A73.out).mono ?_); (case side1 => refine (Kd.R_reads' (e := 55) (base := w.heap.size) (ok := fun k_ => (((((True ∧ some k_ ≠ (v159 : Value).ownBlock) ∧ some k_ ≠ (v163 : Value).ownBlock) ∧ some k_ ≠ (.slice Ao42 t166.length co42 : Value).ownBlock) ∧ some k_ ≠ (.slice Ao52 t172.length co52 : Value).ownBlock) ∧ some k_ ≠ (.slice Ao62 t177.length co62 : Value).ownBlock)) (n := t182.length) (c := co72) ?_).2.2; exact (by (with_reducible repeat (first | apply Kd.R_alloc | apply Kd.R_drewN | apply Kd.R_drew)); exact (Kd.R_mono (Kd.R_far (p := ⟨gb186, 1, none⟩) (Kd.R_far (p := ⟨gb186, 0, none⟩) (Kd.R_types HO184.out BK186.out (by decide)) (fun _ hk => by first | exact hk.2 | trivial) (.int .i64 t181)) (fun _ hk => by first | exact hk.2 | trivial) (.slice Ao72 t182.length co72)) (fun _ h_ => h_.1)))); (case side2 => exact (Kd.R_reads' HO184.out).2.1); (case side3 => refine (Kd.R_reads' (e := 55) (base := w.heap.size) (ok := fun k_ => ((((some k_ ≠ (v159 : Value).ownBlock ∧ some k_ ≠ (v163 : Value).ownBlock) ∧ some k_ ≠ (.slice Ao52 t172.length co52 : Value).ownBlock) ∧ some k_ ≠ (.slice Ao62 t177.length co62 : Value).ownBlock) ∧ some k_ ≠ (.slice Ao72 t182.length co72 : Value).ownBlock)) (n := t166.length) (c := co42) ?_).2.2; exact (by (with_reducible repeat (first | apply Kd.R_alloc | apply Kd.R_drewN | apply Kd.R_drew)); exact (Kd.R_mono (Kd.R_far (p := ⟨gb186, 1, none⟩) (Kd.R_far (p := ⟨gb186, 0, none⟩) (Kd.R_types HO168.out BK186.out (by decide)) (fun _ hk => by first | exact hk.2 | trivial) (.int .i64 t181)) (fun _ hk => by first | exact hk.2 | trivial) (.slice Ao72 t182.length co72)) (fun _ h_ => h_.1)))); (case side4 => exact (Kd.R_reads' HO168.out).2.1); rintro e w98 ⟨rfl, hb⟩; refine ⟨_, rfl, ?_⟩; have n0_ := mk_ (Kd.R_below (Kd.R_mono (Kd.R_far (p := ⟨gb186, 1, none⟩) (Kd.R_far (p := ⟨gb186, 0, none⟩) (Kd.R_types HO160.out BK186.out (by decide)) (fun _ hk => by first | exact hk.2 | trivial) (.int .i64 t181)) (fun _ hk => by first | exact hk.2 | trivial) (.slice Ao72 t182.length co72)) (fun _ h_ => h_.1)) hb); have n1_ := mk_ (Kd.R_below (Kd.R_mono (Kd.R_far (p := ⟨gb186, 1, none⟩) (Kd.R_far (p := ⟨gb186, 0, none⟩) (Kd.R_types HO164.out BK186.out (by decide)) (fun _ hk => by first | exact hk.2 | trivial) (.int .i64 t181)) (fun _ hk => by first | exact hk.2 | trivial) (.slice Ao72 t182.length co72)) (fun _ h_ => h_.1)) hb); have n2_ := mk_ (Kd.R_below (Kd.R_mono (Kd.R_far (p := ⟨gb186, 1, none⟩) (Kd.R_far (p := ⟨gb186, 0, none⟩) (Kd.R_types HO168.out BK186.out (by decide)) (fun _ hk => by first | exact hk.2 | trivial) (.int .i64 t181)) (fun _ hk => by first | exact hk.2 | trivial) (.slice Ao72 t182.length co72)) (fun _ h_ => h_.1)) hb); have n3_ := mk_ (Kd.R_below (Kd.R_mono (Kd.R_far (p := ⟨gb186, 1, none⟩) (Kd.R_far (p := ⟨gb186, 0, none⟩) (Kd.R_types HO174.out BK186.out (by decide)) (fun _ hk => by first | exact hk.2 | trivial) (.int .i64 t181)) (fun _ hk => by first | exact hk.2 | trivial) (.slice Ao72 t182.length co72)) (fun _ h_ => h_.1)) hb); have n4_ := mk_ (Kd.R_below (Kd.R_mono (Kd.R_far (p := ⟨gb186, 1, none⟩) (Kd.R_far (p := ⟨gb186, 0, none⟩) (Kd.R_types HO179.out BK186.out (by decide)) (fun _ hk => by first | exact hk.2 | trivial) (.int .i64 t181)) (fun _ hk => by first | exact hk.2 | trivial) (.slice Ao72 t182.length co72)) (fun _ h_ => h_.1)) hb); have n5_ := mk_ (Kd.R_below (Kd.R_mono (Kd.R_far (p := ⟨gb186, 1, none⟩) (Kd.R_far (p := ⟨gb186, 0, none⟩) (Kd.R_types HO184.out BK186.out (by decide)) (fun _ hk => by first | exact hk.2 | trivial) (.int .i64 t181)) (fun _ hk => by first | exact hk.2 | trivial) (.slice Ao72 t182.length co72)) (fun _ h_ => h_.1)) hb); have n6_ := mk_ (blk_below (g := gb153) (o := .cells #[.int .i64 a0_0, .slice A0_1 l0_1.length c0_1] 37 (0, 0)) (by (with_reducible repeat (first | refine blk_drewN ?_ _ | refine blk_drew ?_ | refine blk_alloc ?_ _)); refine blk_far ?_ NB153_186.out _; (with_reducible repeat (first | refine blk_drewN ?_ _ | refine blk_drew ?_ | refine blk_alloc ?_ _)); refine blk_far ?_ NB153_186.out _; (with_reducible repeat (first | refine blk_drewN ?_ _ | refine blk_drew ?_ | refine blk_alloc ?_ _)); exact BK153.out) hb); have n7_ := mk_ (blk_below (g := gb154) (o := .cells #[.int .i64 a1_0, .slice A1_1 l1_1.length c1_1] 37 (0, 0)) (by (with_reducible repeat (first | refine blk_drewN ?_ _ | refine blk_drew ?_ | refine blk_alloc ?_ _)); refine blk_far ?_ NB154_186.out _; (with_reducible repeat (first | refine blk_drewN ?_ _ | refine blk_drew ?_ | refine blk_alloc ?_ _)); refine blk_far ?_ NB154_186.out _; (with_reducible repeat (first | refine blk_drewN ?_ _ | refine blk_drew ?_ | refine blk_alloc ?_ _)); exact BK154.out) hb); have n8_ := mk_ (blk_below (g := gb170) (o := .cells #[.int .i64 t165, .slice Ao42 t166.length co42] 28 (0, 0)) (by (with_reducible repeat (first | refine blk_drewN ?_ _ | refine blk_drew ?_ | refine blk_alloc ?_ _)); refine blk_far ?_ NB170_186.out _; (with_reducible repeat (first | refine blk_drewN ?_ _ | refine blk_drew ?_ | refine blk_alloc ?_ _)); refine blk_far ?_ NB170_186.out _; (with_reducible repeat (first | refine blk_drewN ?_ _ | refine blk_drew ?_ | refine blk_alloc ?_ _)); exact BK170.out) hb); have n9_ := mk_ (blk_below (g := gb175) (o := .cells #[.int .i64 t171, .slice Ao52 t172.length co52] 28 (0, 0)) (by (with_reducible repeat (first | refine blk_drewN ?_ _ | refine blk_drew ?_ | refine blk_alloc ?_ _)); refine blk_far ?_ NB175_186.out _; (with_reducible repeat (first | refine blk_drewN ?_ _ | refine blk_drew ?_ | refine blk_alloc ?_ _)); refine blk_far ?_ NB175_186.out _; (with_reducible repeat (first | refine blk_drewN ?_ _ | refine blk_drew ?_ | refine blk_alloc ?_ _)); exact BK175.out) hb); have n10_ := mk_ (blk_below (g := gb180) (o := .cells #[.int .i64 t176, .slice Ao62 t177.length co62] 28 (0, 0)) (by (with_reducible repeat (first | refine blk_drewN ?_ _ | refine blk_drew ?_ | refine blk_alloc ?_ _)); refine blk_far ?_ NB180_186.out _; (with_reducible repeat (first | refine blk_drewN ?_ _ | refine blk_drew ?_ | refine blk_alloc ?_ _)); refine blk_far ?_ NB180_186.out _; (with_reducible repeat (first | refine blk_drewN ?_ _ | refine blk_drew ?_ | refine blk_alloc ?_ _)); exact BK180.out) hb); have n11_ := mk_ (blk_below (g := gb186) (o := .cells #[.int .i64 t181, .slice Ao72 t182.length co72] 28 (0, 0)) (by (with_reducible repeat (first | refine blk_drewN ?_ _ | refine blk_drew ?_ | refine blk_alloc ?_ _)); refine blk_put (cs := #[.int .i64 t181, .slice none 0 0]) ?_ 1 _ rfl; (with_reducible repeat (first | refine blk_drewN ?_ _ | refine blk_drew ?_ | refine blk_alloc ?_ _)); refine blk_put (cs := #[.int .i64 0, .slice none 0 0]) ?_ 0 _ rfl; (with_reducible repeat (first | refine blk_drewN ?_ _ | refine blk_drew ?_ | refine blk_alloc ?_ _)); exact BK186.out) hb); have n12_ := mk_ (below_step (by repeat (first | (with_reducible first | exact HB.out | apply below_alloc | apply pw_below_drewN | apply below_drew1 | refine below_set ?_ GE153.out | refine below_set ?_ GE154.out | refine below_set ?_ GE170.out | refine below_set ?_ GE175.out | refine below_set ?_ GE180.out | refine below_set ?_ GE186.out) | exact HB.out)) hb); replace HO160 := n0_; replace HO164 := n1_; replace HO168 := n2_; replace HO174 := n3_; replace HO179 := n4_; replace HO184 := n5_; replace BK153 := n6_; replace BK154 := n7_; replace BK170 := n8_; replace BK175 := n9_; replace BK180 := n10_; replace BK186 := n11_; replace HB := n12_; clear n0_ n1_ n2_ n3_ n4_ n5_ n6_ n7_ n8_ n9_ n10_ n11_ n12_; (try clear hb); (try clear hb2); (try clear hk); (try clear hi)))
  go_meet
  case rel => exact ⟨_, (true), (by first | rfl | (simp; done) | (simp [*]; done)), H', ⟨by first | omega | exact Nat.le_refl _⟩, ⟨by (with_reducible repeat (first | apply Kd.R_alloc | apply Kd.R_drewN | apply Kd.R_drew)); exact Kd.R_mono HO168.out (fun _ hk => ⟨hk.1.1.2, ⟨hk.1.2, hk.2⟩⟩)⟩, ⟨by (with_reducible repeat (first | apply Kd.R_alloc | apply Kd.R_drewN | apply Kd.R_drew)); exact Kd.R_mono HO174.out (fun _ hk => ⟨hk.1.1.2, ⟨hk.1.2, hk.2⟩⟩)⟩, ⟨by (with_reducible repeat (first | apply Kd.R_alloc | apply Kd.R_drewN | apply Kd.R_drew)); exact Kd.R_mono HO179.out (fun _ hk => ⟨hk.1.1.2, ⟨hk.1.2, hk.2⟩⟩)⟩, ⟨by (with_reducible repeat (first | apply Kd.R_alloc | apply Kd.R_drewN | apply Kd.R_drew)); exact Kd.R_mono HO184.out (fun _ hk => ⟨hk.1.1.2, ⟨hk.1.2, hk.2⟩⟩)⟩, ⟨by (with_reducible repeat (first | refine blk_drewN ?_ _ | refine blk_drew ?_ | refine blk_alloc ?_ _)); exact BK153.out⟩, ⟨by (with_reducible repeat (first | refine blk_drewN ?_ _ | refine blk_drew ?_ | refine blk_alloc ?_ _)); exact BK154.out⟩, ⟨by (with_reducible repeat (first | refine blk_drewN ?_ _ | refine blk_drew ?_ | refine blk_alloc ?_ _)); exact BK170.out⟩, ⟨by (with_reducible repeat (first | refine blk_drewN ?_ _ | refine blk_drew ?_ | refine blk_alloc ?_ _)); exact BK175.out⟩, ⟨by (with_reducible repeat (first | refine blk_drewN ?_ _ | refine blk_drew ?_ | refine blk_alloc ?_ _)); exact BK180.out⟩, ⟨by (with_reducible repeat (first | refine blk_drewN ?_ _ | refine blk_drew ?_ | refine blk_alloc ?_ _)); exact BK186.out⟩, ⟨by repeat (first | (with_reducible first | exact HB.out | apply below_alloc | apply pw_below_drewN | apply below_drew1 | refine below_set ?_ GE153.out | refine below_set ?_ GE154.out | refine below_set ?_ GE170.out | refine below_set ?_ GE175.out | refine below_set ?_ GE180.out | refine below_set ?_ GE186.out) | exact HB.out)⟩⟩
 case rest =>
  clear HC25
  try clear c1
  try clear c2
  try clear p2
  try clear c4
  try clear c5
  try clear c6
  try clear c7
  try clear c8
  try clear c9
  try clear c17
  try clear c18
  try clear c19
  try clear c20
  try clear c44
  try clear c48
  try clear c49
  try clear c50
  try clear c53
  try clear c57
  try clear c58
  try clear c59
  try clear c60
  try clear c66
  try clear c67
  try clear c68
  try clear c69
  try clear c70
  try clear c74
  try clear c75
  try clear c76
  try clear c77
  try clear c78
  try clear c79
  try clear c81
  try clear c82
  try clear c83
  try clear c84
  try clear c87
  try clear c88
  try clear c89
  try clear c90
  try clear c91
  try clear c93
  try clear c94
  try clear c95
  try clear c96
  try clear hcz45_0
  try clear hcz45_1
  try clear hcz51_0
  try clear hcz51_1
  try clear hcz54_0
  try clear hcz54_1
  try clear hcz61_0
  try clear hcz61_1
  try clear hcz63_0
  try clear hcz63_1
  try clear hcz71_0
  try clear hcz71_1
  try clear hcz80_0
  try clear hcz80_1
  try clear hcz85_0
  try clear hcz85_1
  try clear hcz92_0
  try clear hcz92_1
  try clear hcz97_0
  try clear hcz97_1
  try clear hfz45_0
  try clear hfz45_1
  try clear hfz51_0
  try clear hfz51_1
  try clear hfz54_0
  try clear hfz54_1
  try clear hfz61_0
  try clear hfz61_1
  try clear hfz63_0
  try clear hfz63_1
  try clear hfz71_0
  try clear hfz71_1
  try clear hfz80_0
  try clear hfz80_1
  try clear hfz85_0
  try clear hfz85_1
  try clear hfz92_0
  try clear hfz92_1
  try clear hfz97_0
  try clear hfz97_1
  obtain ⟨kq, x53_24, rfl, HA, HJ24, HO_171001, HO_176001, HO_181001, HO_187001, BK153, BK154, BK170, BK175, BK180, BK186, HB⟩ := hcut
  cases kq with
  | zero => exact absurd HA.out (by simp [laws_FnExactNetJoin.j0])
  | succ kj24 =>
   have H := HA.out
   clear HA
   simp only [laws_FnExactNetJoin.j0] at H
   by_cases c99 : x53_24 = true
   ·
    subst c99
    have H1 : (some false) = some r := by rw [if_pos rfl] at H; exact H
    clear H
    have H := H1
    clear H1
    exact absurd ((Option.some.inj H).trans HTRUE_.out) (by decide)
   replace c99 := Bool.eq_false_iff.mpr c99
   subst c99
   have H1 : ((laws_toNet.f kj24 a0_0 l0_1).bind fun bt188 => ((laws_eqNet.f kj24 t171 t172 bt188.1 bt188.2).bind fun t192 => (if t192 = true then ((laws_toNet.f kj24 a1_0 l1_1).bind fun bt193 => ((laws_eqNet.f kj24 t176 t177 bt193.1 bt193.2).bind fun t197 => (if t197 = true then ((laws_markNet.f kj24 t171 t172 1).bind fun bt198 => ((laws_markNet.f kj24 t176 t177 bt198.1).bind fun bt200 => (if bt200.1 < 0 then (laws_FnExactNetJoin.j1 kj24 t169 true a0_0 l0_1 a1_0 l1_1 t165 t166 t181 t182) else ((laws_eqNet.f kj24 t181 t182 t165 t166).bind fun t202 => (if t202 = true then (laws_FnExactNetJoin.j1 kj24 t169 (t185 != t169) a0_0 l0_1 a1_0 l1_1 t165 t166 t181 t182) else (laws_FnExactNetJoin.j1 kj24 t169 true a0_0 l0_1 a1_0 l1_1 t165 t166 t181 t182)))))) else (some false)))) else (some false)))) = some r := by rw [if_neg (show ¬ (false = true) by decide)] at H; exact H
   clear H
   have H := H1
   clear H1
   replace H := Option.bind_eq_some_iff.mp H
   obtain ⟨⟨t188, t189⟩, A1000, H⟩ := H
   replace H : ((laws_eqNet.f kj24 t171 t172 t188 t189).bind fun t192 => (if t192 = true then ((laws_toNet.f kj24 a1_0 l1_1).bind fun bt193 => ((laws_eqNet.f kj24 t176 t177 bt193.1 bt193.2).bind fun t197 => (if t197 = true then ((laws_markNet.f kj24 t171 t172 1).bind fun bt198 => ((laws_markNet.f kj24 t176 t177 bt198.1).bind fun bt200 => (if bt200.1 < 0 then (laws_FnExactNetJoin.j1 kj24 t169 true a0_0 l0_1 a1_0 l1_1 t165 t166 t181 t182) else ((laws_eqNet.f kj24 t181 t182 t165 t166).bind fun t202 => (if t202 = true then (laws_FnExactNetJoin.j1 kj24 t169 (t185 != t169) a0_0 l0_1 a1_0 l1_1 t165 t166 t181 t182) else (laws_FnExactNetJoin.j1 kj24 t169 true a0_0 l0_1 a1_0 l1_1 t165 t166 t181 t182)))))) else (some false)))) else (some false))) = some r := H
   have A100 := mk_ A1000
   clear A1000
   replace H := Option.bind_eq_some_iff.mp H
   obtain ⟨t192, A1010, H⟩ := H
   replace H : (if t192 = true then ((laws_toNet.f kj24 a1_0 l1_1).bind fun bt193 => ((laws_eqNet.f kj24 t176 t177 bt193.1 bt193.2).bind fun t197 => (if t197 = true then ((laws_markNet.f kj24 t171 t172 1).bind fun bt198 => ((laws_markNet.f kj24 t176 t177 bt198.1).bind fun bt200 => (if bt200.1 < 0 then (laws_FnExactNetJoin.j1 kj24 t169 true a0_0 l0_1 a1_0 l1_1 t165 t166 t181 t182) else ((laws_eqNet.f kj24 t181 t182 t165 t166).bind fun t202 => (if t202 = true then (laws_FnExactNetJoin.j1 kj24 t169 (t185 != t169) a0_0 l0_1 a1_0 l1_1 t165 t166 t181 t182) else (laws_FnExactNetJoin.j1 kj24 t169 true a0_0 l0_1 a1_0 l1_1 t165 t166 t181 t182)))))) else (some false)))) else (some false)) = some r := H
   have A101 := mk_ A1010
   clear A1010
   by_cases c102 : t192 = true
   rotate_left
   ·
    replace c102 := Bool.eq_false_iff.mpr c102
    subst c102
    have H1 : (some false) = some r := by rw [if_neg (show ¬ (false = true) by decide)] at H; exact H
    clear H
    have H := H1
    clear H1
    exact absurd ((Option.some.inj H).trans HTRUE_.out) (by decide)
   subst c102
   have H1 : ((laws_toNet.f kj24 a1_0 l1_1).bind fun bt193 => ((laws_eqNet.f kj24 t176 t177 bt193.1 bt193.2).bind fun t197 => (if t197 = true then ((laws_markNet.f kj24 t171 t172 1).bind fun bt198 => ((laws_markNet.f kj24 t176 t177 bt198.1).bind fun bt200 => (if bt200.1 < 0 then (laws_FnExactNetJoin.j1 kj24 t169 true a0_0 l0_1 a1_0 l1_1 t165 t166 t181 t182) else ((laws_eqNet.f kj24 t181 t182 t165 t166).bind fun t202 => (if t202 = true then (laws_FnExactNetJoin.j1 kj24 t169 (t185 != t169) a0_0 l0_1 a1_0 l1_1 t165 t166 t181 t182) else (laws_FnExactNetJoin.j1 kj24 t169 true a0_0 l0_1 a1_0 l1_1 t165 t166 t181 t182)))))) else (some false)))) = some r := by rw [if_pos rfl] at H; exact H
   clear H
   have H := H1
   clear H1
   replace H := Option.bind_eq_some_iff.mp H
   obtain ⟨⟨t193, t194⟩, A1030, H⟩ := H
   replace H : ((laws_eqNet.f kj24 t176 t177 t193 t194).bind fun t197 => (if t197 = true then ((laws_markNet.f kj24 t171 t172 1).bind fun bt198 => ((laws_markNet.f kj24 t176 t177 bt198.1).bind fun bt200 => (if bt200.1 < 0 then (laws_FnExactNetJoin.j1 kj24 t169 true a0_0 l0_1 a1_0 l1_1 t165 t166 t181 t182) else ((laws_eqNet.f kj24 t181 t182 t165 t166).bind fun t202 => (if t202 = true then (laws_FnExactNetJoin.j1 kj24 t169 (t185 != t169) a0_0 l0_1 a1_0 l1_1 t165 t166 t181 t182) else (laws_FnExactNetJoin.j1 kj24 t169 true a0_0 l0_1 a1_0 l1_1 t165 t166 t181 t182)))))) else (some false))) = some r := H
   have A103 := mk_ A1030
   clear A1030
   replace H := Option.bind_eq_some_iff.mp H
   obtain ⟨t197, A1040, H⟩ := H
   replace H : (if t197 = true then ((laws_markNet.f kj24 t171 t172 1).bind fun bt198 => ((laws_markNet.f kj24 t176 t177 bt198.1).bind fun bt200 => (if bt200.1 < 0 then (laws_FnExactNetJoin.j1 kj24 t169 true a0_0 l0_1 a1_0 l1_1 t165 t166 t181 t182) else ((laws_eqNet.f kj24 t181 t182 t165 t166).bind fun t202 => (if t202 = true then (laws_FnExactNetJoin.j1 kj24 t169 (t185 != t169) a0_0 l0_1 a1_0 l1_1 t165 t166 t181 t182) else (laws_FnExactNetJoin.j1 kj24 t169 true a0_0 l0_1 a1_0 l1_1 t165 t166 t181 t182)))))) else (some false)) = some r := H
   have A104 := mk_ A1040
   clear A1040
   by_cases c105 : t197 = true
   rotate_left
   ·
    replace c105 := Bool.eq_false_iff.mpr c105
    subst c105
    have H1 : (some false) = some r := by rw [if_neg (show ¬ (false = true) by decide)] at H; exact H
    clear H
    have H := H1
    clear H1
    exact absurd ((Option.some.inj H).trans HTRUE_.out) (by decide)
   subst c105
   have H1 : ((laws_markNet.f kj24 t171 t172 1).bind fun bt198 => ((laws_markNet.f kj24 t176 t177 bt198.1).bind fun bt200 => (if bt200.1 < 0 then (laws_FnExactNetJoin.j1 kj24 t169 true a0_0 l0_1 a1_0 l1_1 t165 t166 t181 t182) else ((laws_eqNet.f kj24 t181 t182 t165 t166).bind fun t202 => (if t202 = true then (laws_FnExactNetJoin.j1 kj24 t169 (t185 != t169) a0_0 l0_1 a1_0 l1_1 t165 t166 t181 t182) else (laws_FnExactNetJoin.j1 kj24 t169 true a0_0 l0_1 a1_0 l1_1 t165 t166 t181 t182)))))) = some r := by rw [if_pos rfl] at H; exact H
   clear H
   have H := H1
   clear H1
   replace H := Option.bind_eq_some_iff.mp H
   obtain ⟨⟨t198, t199⟩, A1060, H⟩ := H
   replace H : ((laws_markNet.f kj24 t176 t177 t198).bind fun bt200 => (if bt200.1 < 0 then (laws_FnExactNetJoin.j1 kj24 t169 true a0_0 l0_1 a1_0 l1_1 t165 t166 t181 t182) else ((laws_eqNet.f kj24 t181 t182 t165 t166).bind fun t202 => (if t202 = true then (laws_FnExactNetJoin.j1 kj24 t169 (t185 != t169) a0_0 l0_1 a1_0 l1_1 t165 t166 t181 t182) else (laws_FnExactNetJoin.j1 kj24 t169 true a0_0 l0_1 a1_0 l1_1 t165 t166 t181 t182))))) = some r := H
   have A106 := mk_ A1060
   clear A1060
   replace H := Option.bind_eq_some_iff.mp H
   obtain ⟨⟨t200, t201⟩, A1070, H⟩ := H
   replace H : (if t200 < 0 then (laws_FnExactNetJoin.j1 kj24 t169 true a0_0 l0_1 a1_0 l1_1 t165 t166 t181 t182) else ((laws_eqNet.f kj24 t181 t182 t165 t166).bind fun t202 => (if t202 = true then (laws_FnExactNetJoin.j1 kj24 t169 (t185 != t169) a0_0 l0_1 a1_0 l1_1 t165 t166 t181 t182) else (laws_FnExactNetJoin.j1 kj24 t169 true a0_0 l0_1 a1_0 l1_1 t165 t166 t181 t182)))) = some r := H
   have A107 := mk_ A1070
   clear A1070
   have HC108 := mk_ H
   clear H
   try go_wp2
   replace HO_171001 := mk_ (Kd.R_drew HO_171001.out)
   replace HO_176001 := mk_ (Kd.R_drew HO_176001.out)
   replace HO_181001 := mk_ (Kd.R_drew HO_181001.out)
   replace HO_187001 := mk_ (Kd.R_drew HO_187001.out)
   replace BK153 := mk_ (blk_drew BK153.out)
   replace BK154 := mk_ (blk_drew BK154.out)
   replace BK170 := mk_ (blk_drew BK170.out)
   replace BK175 := mk_ (blk_drew BK175.out)
   replace BK180 := mk_ (blk_drew BK180.out)
   replace BK186 := mk_ (blk_drew BK186.out)
   replace HB := mk_ (below_drew1 HB.out)
   refine start_ (n := 5) (S := fun w' => w'.cell? ⟨gb175, 0, none⟩ = some (.int .i64 t171) ∧ w'.cell? ⟨gb175, 1, none⟩ = some (.slice Ao52 t172.length co52) ∧ w'.cell? ⟨gb153, 0, none⟩ = some (.int .i64 a0_0) ∧ w'.cell? ⟨gb153, 1, none⟩ = some (.slice A0_1 l0_1.length c0_1)) (ds := []) #[false, false, false, false, false] (by kernel_rfl) rfl rfl ⟨b4_ BK175.out 0 rfl, b4_ BK175.out 1 rfl, b4_ BK153.out 0 rfl, b4_ BK153.out 1 rfl⟩ (fun hHeld => ?_)
   generalize wc.drew = w109 at HO_171001 HO_176001 HO_181001 HO_187001 BK153 BK154 BK170 BK175 BK180 BK186 HB hHeld ⊢
   refine take_ (i := 0) (N := some 54) (v := ?_) (a' := ?_) #[true, false, false, false, false] rfl rfl (by kernel_rfl) (fun _ _ _ h => h) (Or.inl ⟨by rfl, ?_⟩) hHeld ?_ ?_
   rotate_left
   ·
    rintro w' ⟨s0, s1, s2, s3⟩
    go_simp
    with_reducible rfl
   rotate_left
   ·
    simp only [Act.put, List.setIfInBounds_toArray, List.set_cons_zero, List.set_cons_succ, i64_w, i32_w]
    rfl
   refine take_ (i := 1) (N := some 55) (v := ?_) (a' := ?_) #[true, true, false, false, false] rfl rfl (by kernel_rfl) (fun _ _ _ h => h) (Or.inl ⟨by rfl, ?_⟩) hHeld ?_ ?_
   rotate_left
   ·
    rintro w' ⟨s0, s1, s2, s3⟩
    go_simp
    with_reducible rfl
   rotate_left
   ·
    simp only [Act.put, List.setIfInBounds_toArray, List.set_cons_zero, List.set_cons_succ, i64_w, i32_w]
    rfl
   refine one_ (i := 2) (N := some 56) #[true, true, true, false, false] rfl rfl (by kernel_rfl) (by decide) (fun K hK => ?_)
   refine goes_ Try.func18 (by kernel_rfl) rfl #[.agg #[.int .i64 a0_0, .slice A0_1 l0_1.length c0_1]] (by rfl) rfl rfl (by (try simp only [List.map_toArray, List.map_cons, List.map_nil]); first | done | rfl) ?_
   with_reducible refine (laws_toNet.calls kj24 a0_0 _ _ l0_1 t188 t189 _ ?side1 ?side2 A100.out).mono ?_
   (case side1 => repeat (first | exact (Kd.C_below HR0_1.out HB.out) | (with_reducible refine Kd.C_alloc ?_ _) | (with_reducible refine Kd.C_drewN ?_ _) | (with_reducible refine Kd.C_drew ?_)))
   (case side2 => exact HC0_1.out)
   rintro e w110 ⟨v190, rfl, ho0, hb⟩
   refine ⟨_, rfl, ?_⟩
   have HO191 := mk_ (Kd.R_lower (Kd.R_new' (Kd.R_new' (Kd.R_new' (Kd.R_new' ho0 (Kd.R_lt (by (with_reducible repeat (first | apply Kd.R_alloc | apply Kd.R_drewN | apply Kd.R_drew)); exact HO_171001.out))) (Kd.R_lt (by (with_reducible repeat (first | apply Kd.R_alloc | apply Kd.R_drewN | apply Kd.R_drew)); exact HO_176001.out))) (Kd.R_lt (by (with_reducible repeat (first | apply Kd.R_alloc | apply Kd.R_drewN | apply Kd.R_drew)); exact HO_181001.out))) (Kd.R_lt (by (with_reducible repeat (first | apply Kd.R_alloc | apply Kd.R_drewN | apply Kd.R_drew)); exact HO_187001.out))) (below_size HB.out))
   replace HO_171001 := mk_ (Kd.R_elder' HO_171001.out (Kd.R_base ho0) hb)
   replace HO_176001 := mk_ (Kd.R_elder' HO_176001.out (Kd.R_base ho0) hb)
   replace HO_181001 := mk_ (Kd.R_elder' HO_181001.out (Kd.R_base ho0) hb)
   replace HO_187001 := mk_ (Kd.R_elder' HO_187001.out (Kd.R_base ho0) hb)
   replace BK153 := mk_ (blk_below BK153.out hb)
   replace BK154 := mk_ (blk_below BK154.out hb)
   replace BK170 := mk_ (blk_below BK170.out hb)
   replace BK175 := mk_ (blk_below BK175.out hb)
   replace BK180 := mk_ (blk_below BK180.out hb)
   replace BK186 := mk_ (blk_below BK186.out hb)
   replace HB := mk_ (below_step HB.out hb)
   (try clear hb)
   (try clear hb2)
   (try clear hk)
   (try clear hi)
   (try clear ho0)
   obtain ⟨Ao111, co111, eo111⟩ := Kd.R_slice HO191.out
   (first | subst eo111 | (injection eo111 with f1_ f2_ f3_; have f4_ := f1_.symm; have f5_ := f3_.symm; clear f1_ f2_ f3_; subst f4_; subst f5_))
   refine hK.out _ _ ⟨b4_ BK175.out 0 rfl, b4_ BK175.out 1 rfl, b4_ BK153.out 0 rfl, b4_ BK153.out 1 rfl⟩ (fun hHeld => ?_)
   clear hK K
   refine norm_ (a' := ?_) ?_ ?_
   rotate_left
   ·
    show Act.put _ (some 56) _ = _
    simp only [Act.put, List.setIfInBounds_toArray, List.set_cons_zero, List.set_cons_succ, i64_w, i32_w]
    rfl
   refine one_ (i := 3) (N := some 57) #[true, true, true, true, false] rfl rfl (by kernel_rfl) (by decide) (fun K hK => ?_)
   refine goes_ Try.func20 (by kernel_rfl) rfl #[.agg #[.int .i64 t171, .slice Ao52 t172.length co52], .agg #[.int .i64 t188, .slice Ao111 t189.length co111]] (by rfl) rfl rfl (by (try simp only [List.map_toArray, List.map_cons, List.map_nil]); first | done | rfl) ?_
   with_reducible refine (laws_eqNet.calls kj24 t171 _ _ t172 t188 _ _ t189 true _ ?side1 ?side2 ?side3 ?side4 A101.out).mono ?_
   (case side1 => repeat (first | exact (Kd.R_reads' HO_176001.out).2.2 | (with_reducible refine Kd.C_alloc ?_ _) | (with_reducible refine Kd.C_drewN ?_ _) | (with_reducible refine Kd.C_drew ?_)))
   (case side2 => exact (Kd.R_reads' HO_176001.out).2.1)
   (case side3 => repeat (first | exact (Kd.R_reads' HO191.out).2.2 | (with_reducible refine Kd.C_alloc ?_ _) | (with_reducible refine Kd.C_drewN ?_ _) | (with_reducible refine Kd.C_drew ?_)))
   (case side4 => exact (Kd.R_reads' HO191.out).2.1)
   rintro e w112 ⟨rfl, hb⟩
   refine ⟨_, rfl, ?_⟩
   replace HO_171001 := mk_ (Kd.R_below HO_171001.out hb)
   replace HO_176001 := mk_ (Kd.R_below HO_176001.out hb)
   replace HO_181001 := mk_ (Kd.R_below HO_181001.out hb)
   replace HO_187001 := mk_ (Kd.R_below HO_187001.out hb)
   replace HO191 := mk_ (Kd.R_below HO191.out hb)
   replace BK153 := mk_ (blk_below BK153.out hb)
   replace BK154 := mk_ (blk_below BK154.out hb)
   replace BK170 := mk_ (blk_below BK170.out hb)
   replace BK175 := mk_ (blk_below BK175.out hb)
   replace BK180 := mk_ (blk_below BK180.out hb)
   replace BK186 := mk_ (blk_below BK186.out hb)
   replace HB := mk_ (below_step HB.out hb)
   (try clear hb)
   (try clear hb2)
   (try clear hk)
   (try clear hi)
   refine hK.out _ _ ⟨b4_ BK175.out 0 rfl, b4_ BK175.out 1 rfl, b4_ BK153.out 0 rfl, b4_ BK153.out 1 rfl⟩ (fun hHeld => ?_)
   clear hK K
   refine norm_ (a' := ?_) ?_ ?_
   rotate_left
   ·
    show Act.put _ (some 57) _ = _
    simp only [Act.put, List.setIfInBounds_toArray, List.set_cons_zero, List.set_cons_succ, i64_w, i32_w]
    rfl
   refine pure_ (i := 4) (N := some 58) (v := ?_) (a' := ?_) #[true, true, true, true, true] rfl rfl (by kernel_rfl) (fun _ _ _ h => h) (Or.inl ⟨by rfl, ?_⟩) ?_ ?_
   rotate_left
   ·
    intro w'
    go_simp
    with_reducible rfl
   rotate_left
   ·
    simp only [Act.put, List.setIfInBounds_toArray, List.set_cons_zero, List.set_cons_succ, i64_w, i32_w]
    rfl
   refine done_ (by kernel_rfl) ?_
   try go_wp2
   replace HO_171001 := mk_ (Kd.R_drew HO_171001.out)
   replace HO_176001 := mk_ (Kd.R_drew HO_176001.out)
   replace HO_181001 := mk_ (Kd.R_drew HO_181001.out)
   replace HO_187001 := mk_ (Kd.R_drew HO_187001.out)
   replace HO191 := mk_ (Kd.R_drew HO191.out)
   replace BK153 := mk_ (blk_drew BK153.out)
   replace BK154 := mk_ (blk_drew BK154.out)
   replace BK170 := mk_ (blk_drew BK170.out)
   replace BK175 := mk_ (blk_drew BK175.out)
   replace BK180 := mk_ (blk_drew BK180.out)
   replace BK186 := mk_ (blk_drew BK186.out)
   replace HB := mk_ (below_drew1 HB.out)
   refine start_ (n := 5) (S := fun w' => w'.cell? ⟨gb180, 0, none⟩ = some (.int .i64 t176) ∧ w'.cell? ⟨gb180, 1, none⟩ = some (.slice Ao62 t177.length co62) ∧ w'.cell? ⟨gb154, 0, none⟩ = some (.int .i64 a1_0) ∧ w'.cell? ⟨gb154, 1, none⟩ = some (.slice A1_1 l1_1.length c1_1)) (ds := []) #[false, false, false, false, false] (by kernel_rfl) rfl rfl ⟨b4_ BK180.out 0 rfl, b4_ BK180.out 1 rfl, b4_ BK154.out 0 rfl, b4_ BK154.out 1 rfl⟩ (fun hHeld => ?_)
   generalize w112.drew = w113 at HO_171001 HO_176001 HO_181001 HO_187001 HO191 BK153 BK154 BK170 BK175 BK180 BK186 HB hHeld ⊢
   refine take_ (i := 0) (N := some 59) (v := ?_) (a' := ?_) #[true, false, false, false, false] rfl rfl (by kernel_rfl) (fun _ _ _ h => h) (Or.inl ⟨by rfl, ?_⟩) hHeld ?_ ?_
   rotate_left
   ·
    rintro w' ⟨s0, s1, s2, s3⟩
    go_simp
    with_reducible rfl
   rotate_left
   ·
    simp only [Act.put, List.setIfInBounds_toArray, List.set_cons_zero, List.set_cons_succ, i64_w, i32_w]
    rfl
   refine take_ (i := 1) (N := some 60) (v := ?_) (a' := ?_) #[true, true, false, false, false] rfl rfl (by kernel_rfl) (fun _ _ _ h => h) (Or.inl ⟨by rfl, ?_⟩) hHeld ?_ ?_
   rotate_left
   ·
    rintro w' ⟨s0, s1, s2, s3⟩
    go_simp
    with_reducible rfl
   rotate_left
   ·
    simp only [Act.put, List.setIfInBounds_toArray, List.set_cons_zero, List.set_cons_succ, i64_w, i32_w]
    rfl
   refine one_ (i := 2) (N := some 61) #[true, true, true, false, false] rfl rfl (by kernel_rfl) (by decide) (fun K hK => ?_)
   refine goes_ Try.func18 (by kernel_rfl) rfl #[.agg #[.int .i64 a1_0, .slice A1_1 l1_1.length c1_1]] (by rfl) rfl rfl (by (try simp only [List.map_toArray, List.map_cons, List.map_nil]); first | done | rfl) ?_
   with_reducible refine (laws_toNet.calls kj24 a1_0 _ _ l1_1 t193 t194 _ ?side1 ?side2 A103.out).mono ?_
   (case side1 => repeat (first | exact (Kd.C_below HR1_1.out HB.out) | (with_reducible refine Kd.C_alloc ?_ _) | (with_reducible refine Kd.C_drewN ?_ _) | (with_reducible refine Kd.C_drew ?_)))
   (case side2 => exact HC1_1.out)
   rintro e w114 ⟨v195, rfl, ho0, hb⟩
   refine ⟨_, rfl, ?_⟩
   have HO196 := mk_ (Kd.R_lower (Kd.R_new' (Kd.R_new' (Kd.R_new' (Kd.R_new' (Kd.R_new' ho0 (Kd.R_lt (by (with_reducible repeat (first | apply Kd.R_alloc | apply Kd.R_drewN | apply Kd.R_drew)); exact HO_171001.out))) (Kd.R_lt (by (with_reducible repeat (first | apply Kd.R_alloc | apply Kd.R_drewN | apply Kd.R_drew)); exact HO_176001.out))) (Kd.R_lt (by (with_reducible repeat (first | apply Kd.R_alloc | apply Kd.R_drewN | apply Kd.R_drew)); exact HO_181001.out))) (Kd.R_lt (by (with_reducible repeat (first | apply Kd.R_alloc | apply Kd.R_drewN | apply Kd.R_drew)); exact HO_187001.out))) (Kd.R_lt (by (with_reducible repeat (first | apply Kd.R_alloc | apply Kd.R_drewN | apply Kd.R_drew)); exact HO191.out))) (below_size HB.out))
   replace HO_171001 := mk_ (Kd.R_elder' HO_171001.out (Kd.R_base ho0) hb)
   replace HO_176001 := mk_ (Kd.R_elder' HO_176001.out (Kd.R_base ho0) hb)
   replace HO_181001 := mk_ (Kd.R_elder' HO_181001.out (Kd.R_base ho0) hb)
   replace HO_187001 := mk_ (Kd.R_elder' HO_187001.out (Kd.R_base ho0) hb)
   replace HO191 := mk_ (Kd.R_elder' HO191.out (Kd.R_base ho0) hb)
   replace BK153 := mk_ (blk_below BK153.out hb)
   replace BK154 := mk_ (blk_below BK154.out hb)
   replace BK170 := mk_ (blk_below BK170.out hb)
   replace BK175 := mk_ (blk_below BK175.out hb)
   replace BK180 := mk_ (blk_below BK180.out hb)
   replace BK186 := mk_ (blk_below BK186.out hb)
   replace HB := mk_ (below_step HB.out hb)
   (try clear hb)
   (try clear hb2)
   (try clear hk)
   (try clear hi)
   (try clear ho0)
   obtain ⟨Ao115, co115, eo115⟩ := Kd.R_slice HO196.out
   (first | subst eo115 | (injection eo115 with f1_ f2_ f3_; have f4_ := f1_.symm; have f5_ := f3_.symm; clear f1_ f2_ f3_; subst f4_; subst f5_))
   refine hK.out _ _ ⟨b4_ BK180.out 0 rfl, b4_ BK180.out 1 rfl, b4_ BK154.out 0 rfl, b4_ BK154.out 1 rfl⟩ (fun hHeld => ?_)
   clear hK K
   refine norm_ (a' := ?_) ?_ ?_
   rotate_left
   ·
    show Act.put _ (some 61) _ = _
    simp only [Act.put, List.setIfInBounds_toArray, List.set_cons_zero, List.set_cons_succ, i64_w, i32_w]
    rfl
   refine one_ (i := 3) (N := some 62) #[true, true, true, true, false] rfl rfl (by kernel_rfl) (by decide) (fun K hK => ?_)
   refine goes_ Try.func20 (by kernel_rfl) rfl #[.agg #[.int .i64 t176, .slice Ao62 t177.length co62], .agg #[.int .i64 t193, .slice Ao115 t194.length co115]] (by rfl) rfl rfl (by (try simp only [List.map_toArray, List.map_cons, List.map_nil]); first | done | rfl) ?_
   with_reducible refine (laws_eqNet.calls kj24 t176 _ _ t177 t193 _ _ t194 true _ ?side1 ?side2 ?side3 ?side4 A104.out).mono ?_
   (case side1 => repeat (first | exact (Kd.R_reads' HO_181001.out).2.2 | (with_reducible refine Kd.C_alloc ?_ _) | (with_reducible refine Kd.C_drewN ?_ _) | (with_reducible refine Kd.C_drew ?_)))
   (case side2 => exact (Kd.R_reads' HO_181001.out).2.1)
   (case side3 => repeat (first | exact (Kd.R_reads' HO196.out).2.2 | (with_reducible refine Kd.C_alloc ?_ _) | (with_reducible refine Kd.C_drewN ?_ _) | (with_reducible refine Kd.C_drew ?_)))
   (case side4 => exact (Kd.R_reads' HO196.out).2.1)
   rintro e w116 ⟨rfl, hb⟩
   refine ⟨_, rfl, ?_⟩
   replace HO_171001 := mk_ (Kd.R_below HO_171001.out hb)
   replace HO_176001 := mk_ (Kd.R_below HO_176001.out hb)
   replace HO_181001 := mk_ (Kd.R_below HO_181001.out hb)
   replace HO_187001 := mk_ (Kd.R_below HO_187001.out hb)
   replace HO191 := mk_ (Kd.R_below HO191.out hb)
   replace HO196 := mk_ (Kd.R_below HO196.out hb)
   replace BK153 := mk_ (blk_below BK153.out hb)
   replace BK154 := mk_ (blk_below BK154.out hb)
   replace BK170 := mk_ (blk_below BK170.out hb)
   replace BK175 := mk_ (blk_below BK175.out hb)
   replace BK180 := mk_ (blk_below BK180.out hb)
   replace BK186 := mk_ (blk_below BK186.out hb)
   replace HB := mk_ (below_step HB.out hb)
   (try clear hb)
   (try clear hb2)
   (try clear hk)
   (try clear hi)
   refine hK.out _ _ ⟨b4_ BK180.out 0 rfl, b4_ BK180.out 1 rfl, b4_ BK154.out 0 rfl, b4_ BK154.out 1 rfl⟩ (fun hHeld => ?_)
   clear hK K
   refine norm_ (a' := ?_) ?_ ?_
   rotate_left
   ·
    show Act.put _ (some 62) _ = _
    simp only [Act.put, List.setIfInBounds_toArray, List.set_cons_zero, List.set_cons_succ, i64_w, i32_w]
    rfl
   refine pure_ (i := 4) (N := some 63) (v := ?_) (a' := ?_) #[true, true, true, true, true] rfl rfl (by kernel_rfl) (fun _ _ _ h => h) (Or.inl ⟨by rfl, ?_⟩) ?_ ?_
   rotate_left
   ·
    intro w'
    go_simp
    with_reducible rfl
   rotate_left
   ·
    simp only [Act.put, List.setIfInBounds_toArray, List.set_cons_zero, List.set_cons_succ, i64_w, i32_w]
    rfl
   refine done_ (by kernel_rfl) ?_
   have hnb117 := NB175_153.out
   have hnc117 := NB153_175.out
   have hnb118 := NB175_154.out
   have hnc118 := NB154_175.out
   have hnb119 := NB175_170.out
   have hnc119 := NB170_175.out
   have hnb120 := NB175_180.out
   have hnc120 := NB180_175.out
   have hnb121 := NB175_186.out
   have hnc121 := NB186_175.out
   have hcz122_0 : w116.cell? ⟨gb175, 0, none⟩ = some (.int .i64 t171) := b4_ BK175.out 0 rfl
   have hcz122_1 : w116.cell? ⟨gb175, 1, none⟩ = some (.slice Ao52 t172.length co52) := b4_ BK175.out 1 rfl
   have hfz122_0 := blk_frozen BK175.out 0
   have hfz122_1 := blk_frozen BK175.out 1
   go_upto_region 21 with (first | ((with_reducible refine gate_callee (f := 21) rfl ?_); refine goesL_ (some 66) rfl rfl Try.func21 (by kernel_rfl) rfl #[.agg #[.int .i64 t171, .slice Ao52 t172.length co52], .int .i64 1] rfl (by (try simp only [List.map_toArray, List.map_cons, List.map_nil]); first | done | rfl) ?_; (with_reducible refine (laws_markNet.calls kj24 t171 (fun k_ => some k_ = (.slice Ao52 t172.length co52 : Value).ownBlock) (.slice Ao52 t172.length co52) t172 1 t198 t199 w _ ?side1 ?side2 A106.out).mono ?_); (case side1 => repeat (first | (with_reducible first | exact HB.out | apply below_alloc | apply pw_below_drewN | apply below_drew1 | refine below_set ?_ GE153.out | refine below_set ?_ GE154.out | refine below_set ?_ GE170.out | refine below_set ?_ GE175.out | refine below_set ?_ GE180.out | refine below_set ?_ GE186.out) | exact HB.out)); (case side2 => exact Kd.R_tight rfl HO_176001.out); rintro e w123 ⟨rfl, hy0, hb, hkp⟩; refine ⟨_, rfl, ?_⟩; have n0_ := mk_ (Kd.R_mono (ok' := fun k_ => some k_ ≠ (.slice Ao52 t172.length co52 : Value).ownBlock ∧ some k_ ≠ (.slice Ao62 t177.length co62 : Value).ownBlock ∧ some k_ ≠ (.slice Ao72 t182.length co72 : Value).ownBlock ∧ some k_ ≠ (.slice Ao111 t189.length co111 : Value).ownBlock ∧ some k_ ≠ (.slice Ao115 t194.length co115 : Value).ownBlock) (Kd.R_keptB (HO_171001.out) hkp (fun k_ hk_ hs_ => by first | exact (hk_.1.1.1) hs_ | exact absurd hs_ (by first | (simp only [hk_, ne_eq, not_false_eq_true, and_self, and_true, true_and, implies_true]; done) | (simp [hk_]; done)))) (fun k_ hk_ => by first | exact ⟨hk_.1.1.1.1, hk_.1.1.1.2.1, hk_.1.1.1.2.2, hk_.1.1.2, hk_.1.2⟩ | (simp only [hk_, ne_eq, not_false_eq_true, and_self, and_true, true_and, implies_true]; done) | (simp [hk_]; done))); have n1_ := mk_ (Kd.R_reok rfl hy0 (fun k_ e_ => HO_176001.out.1 k_ e_)); have n2_ := mk_ (Kd.R_mono (ok' := fun k_ => some k_ ≠ (.slice Ao42 t166.length co42 : Value).ownBlock ∧ some k_ ≠ (.slice Ao52 t172.length co52 : Value).ownBlock ∧ some k_ ≠ (.slice Ao72 t182.length co72 : Value).ownBlock ∧ some k_ ≠ (.slice Ao111 t189.length co111 : Value).ownBlock ∧ some k_ ≠ (.slice Ao115 t194.length co115 : Value).ownBlock) (Kd.R_keptB (HO_181001.out) hkp (fun k_ hk_ hs_ => by first | exact (hk_.1.1.2.1) hs_ | exact absurd hs_ (by first | (simp only [hk_, ne_eq, not_false_eq_true, and_self, and_true, true_and, implies_true]; done) | (simp [hk_]; done)))) (fun k_ hk_ => by first | exact ⟨hk_.1.1.1.1, hk_.1.1.1.2.1, hk_.1.1.1.2.2, hk_.1.1.2, hk_.1.2⟩ | (simp only [hk_, ne_eq, not_false_eq_true, and_self, and_true, true_and, implies_true]; done) | (simp [hk_]; done))); have n3_ := mk_ (Kd.R_mono (ok' := fun k_ => some k_ ≠ (.slice Ao42 t166.length co42 : Value).ownBlock ∧ some k_ ≠ (.slice Ao52 t172.length co52 : Value).ownBlock ∧ some k_ ≠ (.slice Ao62 t177.length co62 : Value).ownBlock ∧ some k_ ≠ (.slice Ao111 t189.length co111 : Value).ownBlock ∧ some k_ ≠ (.slice Ao115 t194.length co115 : Value).ownBlock) (Kd.R_keptB (HO_187001.out) hkp (fun k_ hk_ hs_ => by first | exact (hk_.1.1.2.1) hs_ | exact absurd hs_ (by first | (simp only [hk_, ne_eq, not_false_eq_true, and_self, and_true, true_and, implies_true]; done) | (simp [hk_]; done)))) (fun k_ hk_ => by first | exact ⟨hk_.1.1.1.1, hk_.1.1.1.2.1, hk_.1.1.1.2.2, hk_.1.1.2, hk_.1.2⟩ | (simp only [hk_, ne_eq, not_false_eq_true, and_self, and_true, true_and, implies_true]; done) | (simp [hk_]; done))); have n4_ := mk_ (blk_kept BK153.out hkp (fun hs_ => (fun e_ => (Kd.R_ne HO_176001.out BK153.out (by decide)) e_) hs_)); have n5_ := mk_ (blk_kept BK154.out hkp (fun hs_ => (fun e_ => (Kd.R_ne HO_176001.out BK154.out (by decide)) e_) hs_)); have n6_ := mk_ (blk_kept BK170.out hkp (fun hs_ => (fun e_ => (Kd.R_ne HO_176001.out BK170.out (by decide)) e_) hs_)); have n7_ := mk_ (blk_kept BK175.out hkp (fun hs_ => (fun e_ => (Kd.R_ne HO_176001.out BK175.out (by decide)) e_) hs_)); have n8_ := mk_ (blk_kept BK180.out hkp (fun hs_ => (fun e_ => (Kd.R_ne HO_176001.out BK180.out (by decide)) e_) hs_)); have n9_ := mk_ (blk_kept BK186.out hkp (fun hs_ => (fun e_ => (Kd.R_ne HO_176001.out BK186.out (by decide)) e_) hs_)); have n10_ := mk_ (Kd.R_mono (ok' := fun k_ => some k_ ≠ (.slice Ao42 t166.length co42 : Value).ownBlock ∧ some k_ ≠ (.slice Ao52 t172.length co52 : Value).ownBlock ∧ some k_ ≠ (.slice Ao62 t177.length co62 : Value).ownBlock ∧ some k_ ≠ (.slice Ao72 t182.length co72 : Value).ownBlock ∧ some k_ ≠ (.slice Ao115 t194.length co115 : Value).ownBlock) (Kd.R_keptB (HO191.out) hkp (fun k_ hk_ hs_ => by first | exact (hk_.1.1.1.2) hs_ | exact absurd hs_ (by first | (simp only [hk_, ne_eq, not_false_eq_true, and_self, and_true, true_and, implies_true]; done) | (simp [hk_]; done)))) (fun k_ hk_ => by first | exact ⟨hk_.1.1.1.1.1.2, hk_.1.1.1.1.2, hk_.1.1.1.2, hk_.1.1.2, hk_.1.2⟩ | (simp only [hk_, ne_eq, not_false_eq_true, and_self, and_true, true_and, implies_true]; done) | (simp [hk_]; done))); have n11_ := mk_ (Kd.R_mono (ok' := fun k_ => some k_ ≠ (.slice Ao42 t166.length co42 : Value).ownBlock ∧ some k_ ≠ (.slice Ao52 t172.length co52 : Value).ownBlock ∧ some k_ ≠ (.slice Ao62 t177.length co62 : Value).ownBlock ∧ some k_ ≠ (.slice Ao72 t182.length co72 : Value).ownBlock ∧ some k_ ≠ (.slice Ao111 t189.length co111 : Value).ownBlock) (Kd.R_keptB (HO196.out) hkp (fun k_ hk_ hs_ => by first | exact (hk_.1.1.1.2) hs_ | exact absurd hs_ (by first | (simp only [hk_, ne_eq, not_false_eq_true, and_self, and_true, true_and, implies_true]; done) | (simp [hk_]; done)))) (fun k_ hk_ => by first | exact ⟨hk_.1.1.1.1.1.2, hk_.1.1.1.1.2, hk_.1.1.1.2, hk_.1.1.2, hk_.1.2⟩ | (simp only [hk_, ne_eq, not_false_eq_true, and_self, and_true, true_and, implies_true]; done) | (simp [hk_]; done))); have n12_ := mk_ (hb); replace HO_171001 := n0_; replace HO_176001 := n1_; replace HO_181001 := n2_; replace HO_187001 := n3_; replace BK153 := n4_; replace BK154 := n5_; replace BK170 := n6_; replace BK175 := n7_; replace BK180 := n8_; replace BK186 := n9_; replace HO191 := n10_; replace HO196 := n11_; replace HB := n12_; clear n0_ n1_ n2_ n3_ n4_ n5_ n6_ n7_ n8_ n9_ n10_ n11_ n12_; (try clear hb); (try clear hkp); (try clear hy0); have hnb124 := NB180_153.out; have hnc124 := NB153_180.out; have hnb125 := NB180_154.out; have hnc125 := NB154_180.out; have hnb126 := NB180_170.out; have hnc126 := NB170_180.out; have hnb127 := NB180_186.out; have hnc127 := NB186_180.out; have hcz128_0 : w123.cell? ⟨gb180, 0, none⟩ = some (.int .i64 t176) := b4_ BK180.out 0 rfl; have hcz128_1 : w123.cell? ⟨gb180, 1, none⟩ = some (.slice Ao62 t177.length co62) := b4_ BK180.out 1 rfl; have hfz128_0 := blk_frozen BK180.out 0; have hfz128_1 := blk_frozen BK180.out 1) | ((with_reducible refine gate_callee (f := 21) rfl ?_); refine goesL_ (some 69) rfl rfl Try.func21 (by kernel_rfl) rfl #[.agg #[.int .i64 t176, .slice Ao62 t177.length co62], .int .i64 t198] rfl (by (try simp only [List.map_toArray, List.map_cons, List.map_nil]); first | done | rfl) ?_; (with_reducible refine (laws_markNet.calls kj24 t176 (fun k_ => some k_ = (.slice Ao62 t177.length co62 : Value).ownBlock) (.slice Ao62 t177.length co62) t177 t198 t200 t201 w _ ?side1 ?side2 A107.out).mono ?_); (case side1 => repeat (first | (with_reducible first | exact HB.out | apply below_alloc | apply pw_below_drewN | apply below_drew1 | refine below_set ?_ GE153.out | refine below_set ?_ GE154.out | refine below_set ?_ GE170.out | refine below_set ?_ GE175.out | refine below_set ?_ GE180.out | refine below_set ?_ GE186.out) | exact HB.out)); (case side2 => exact Kd.R_tight rfl HO_181001.out); rintro e w129 ⟨rfl, hy0, hb, hkp⟩; refine ⟨_, rfl, ?_⟩; have n0_ := mk_ (Kd.R_mono (ok' := fun k_ => some k_ ≠ (.slice Ao52 t172.length co52 : Value).ownBlock ∧ some k_ ≠ (.slice Ao62 t177.length co62 : Value).ownBlock ∧ some k_ ≠ (.slice Ao72 t182.length co72 : Value).ownBlock ∧ some k_ ≠ (.slice Ao111 t189.length co111 : Value).ownBlock ∧ some k_ ≠ (.slice Ao115 t194.length co115 : Value).ownBlock) (Kd.R_keptB (HO_171001.out) hkp (fun k_ hk_ hs_ => by first | exact (hk_.2.1) hs_ | exact absurd hs_ (by first | (simp only [hk_, ne_eq, not_false_eq_true, and_self, and_true, true_and, implies_true]; done) | (simp [hk_]; done)))) (fun k_ hk_ => by first | exact ⟨hk_.1.1, hk_.1.2.1, hk_.1.2.2.1, hk_.1.2.2.2.1, hk_.1.2.2.2.2⟩ | (simp only [hk_, ne_eq, not_false_eq_true, and_self, and_true, true_and, implies_true]; done) | (simp [hk_]; done))); have n1_ := mk_ (Kd.R_mono (ok' := fun k_ => some k_ ≠ (.slice Ao42 t166.length co42 : Value).ownBlock ∧ some k_ ≠ (.slice Ao62 t177.length co62 : Value).ownBlock ∧ some k_ ≠ (.slice Ao72 t182.length co72 : Value).ownBlock ∧ some k_ ≠ (.slice Ao111 t189.length co111 : Value).ownBlock ∧ some k_ ≠ (.slice Ao115 t194.length co115 : Value).ownBlock) (Kd.R_keptB (HO_176001.out) hkp (fun k_ hk_ hs_ => by first | exact (hk_.1.1.2.1) hs_ | exact absurd hs_ (by first | (simp only [hk_, ne_eq, not_false_eq_true, and_self, and_true, true_and, implies_true]; done) | (simp [hk_]; done)))) (fun k_ hk_ => by first | exact ⟨hk_.1.1.1.1, hk_.1.1.1.2.1, hk_.1.1.1.2.2, hk_.1.1.2, hk_.1.2⟩ | (simp only [hk_, ne_eq, not_false_eq_true, and_self, and_true, true_and, implies_true]; done) | (simp [hk_]; done))); have n2_ := mk_ (Kd.R_reok rfl hy0 (fun k_ e_ => HO_181001.out.1 k_ e_)); have n3_ := mk_ (Kd.R_mono (ok' := fun k_ => some k_ ≠ (.slice Ao42 t166.length co42 : Value).ownBlock ∧ some k_ ≠ (.slice Ao52 t172.length co52 : Value).ownBlock ∧ some k_ ≠ (.slice Ao62 t177.length co62 : Value).ownBlock ∧ some k_ ≠ (.slice Ao111 t189.length co111 : Value).ownBlock ∧ some k_ ≠ (.slice Ao115 t194.length co115 : Value).ownBlock) (Kd.R_keptB (HO_187001.out) hkp (fun k_ hk_ hs_ => by first | exact (hk_.2.2.1) hs_ | exact absurd hs_ (by first | (simp only [hk_, ne_eq, not_false_eq_true, and_self, and_true, true_and, implies_true]; done) | (simp [hk_]; done)))) (fun k_ hk_ => by first | exact ⟨hk_.1.1, hk_.1.2.1, hk_.1.2.2.1, hk_.1.2.2.2.1, hk_.1.2.2.2.2⟩ | (simp only [hk_, ne_eq, not_false_eq_true, and_self, and_true, true_and, implies_true]; done) | (simp [hk_]; done))); have n4_ := mk_ (blk_kept BK153.out hkp (fun hs_ => (fun e_ => (Kd.R_ne HO_181001.out BK153.out (by decide)) e_) hs_)); have n5_ := mk_ (blk_kept BK154.out hkp (fun hs_ => (fun e_ => (Kd.R_ne HO_181001.out BK154.out (by decide)) e_) hs_)); have n6_ := mk_ (blk_kept BK170.out hkp (fun hs_ => (fun e_ => (Kd.R_ne HO_181001.out BK170.out (by decide)) e_) hs_)); have n7_ := mk_ (blk_kept BK175.out hkp (fun hs_ => (fun e_ => (Kd.R_ne HO_181001.out BK175.out (by decide)) e_) hs_)); have n8_ := mk_ (blk_kept BK180.out hkp (fun hs_ => (fun e_ => (Kd.R_ne HO_181001.out BK180.out (by decide)) e_) hs_)); have n9_ := mk_ (blk_kept BK186.out hkp (fun hs_ => (fun e_ => (Kd.R_ne HO_181001.out BK186.out (by decide)) e_) hs_)); have n10_ := mk_ (Kd.R_mono (ok' := fun k_ => some k_ ≠ (.slice Ao42 t166.length co42 : Value).ownBlock ∧ some k_ ≠ (.slice Ao52 t172.length co52 : Value).ownBlock ∧ some k_ ≠ (.slice Ao62 t177.length co62 : Value).ownBlock ∧ some k_ ≠ (.slice Ao72 t182.length co72 : Value).ownBlock ∧ some k_ ≠ (.slice Ao115 t194.length co115 : Value).ownBlock) (Kd.R_keptB (HO191.out) hkp (fun k_ hk_ hs_ => by first | exact (hk_.2.2.1) hs_ | exact absurd hs_ (by first | (simp only [hk_, ne_eq, not_false_eq_true, and_self, and_true, true_and, implies_true]; done) | (simp [hk_]; done)))) (fun k_ hk_ => by first | exact ⟨hk_.1.1, hk_.1.2.1, hk_.1.2.2.1, hk_.1.2.2.2.1, hk_.1.2.2.2.2⟩ | (simp only [hk_, ne_eq, not_false_eq_true, and_self, and_true, true_and, implies_true]; done) | (simp [hk_]; done))); have n11_ := mk_ (Kd.R_mono (ok' := fun k_ => some k_ ≠ (.slice Ao42 t166.length co42 : Value).ownBlock ∧ some k_ ≠ (.slice Ao52 t172.length co52 : Value).ownBlock ∧ some k_ ≠ (.slice Ao62 t177.length co62 : Value).ownBlock ∧ some k_ ≠ (.slice Ao72 t182.length co72 : Value).ownBlock ∧ some k_ ≠ (.slice Ao111 t189.length co111 : Value).ownBlock) (Kd.R_keptB (HO196.out) hkp (fun k_ hk_ hs_ => by first | exact (hk_.2.2.1) hs_ | exact absurd hs_ (by first | (simp only [hk_, ne_eq, not_false_eq_true, and_self, and_true, true_and, implies_true]; done) | (simp [hk_]; done)))) (fun k_ hk_ => by first | exact ⟨hk_.1.1, hk_.1.2.1, hk_.1.2.2.1, hk_.1.2.2.2.1, hk_.1.2.2.2.2⟩ | (simp only [hk_, ne_eq, not_false_eq_true, and_self, and_true, true_and, implies_true]; done) | (simp [hk_]; done))); have n12_ := mk_ (hb); replace HO_171001 := n0_; replace HO_176001 := n1_; replace HO_181001 := n2_; replace HO_187001 := n3_; replace BK153 := n4_; replace BK154 := n5_; replace BK170 := n6_; replace BK175 := n7_; replace BK180 := n8_; replace BK186 := n9_; replace HO191 := n10_; replace HO196 := n11_; replace HB := n12_; clear n0_ n1_ n2_ n3_ n4_ n5_ n6_ n7_ n8_ n9_ n10_ n11_ n12_; (try clear hb); (try clear hkp); (try clear hy0)))
   (try simp only [Act.put, List.setIfInBounds_toArray, List.set_cons_zero, List.set_cons_succ])
   go_cut [82] (fun v82 wc => ∃ (kq : Nat) (x82_107 : Bool), v82 = .bool x82_107 ∧ Aside0 (laws_FnExactNetJoin.j1 kq t169 x82_107 a0_0 l0_1 a1_0 l1_1 t165 t166 t181 t182 = some r) ∧ Aside0 (kq ≤ kj24) ∧ Aside0 (Kd.R k55 55 wc w.heap.size (fun k_ => some k_ ≠ ((.slice Ao52 t172.length co52) : Value).ownBlock ∧ some k_ ≠ ((.slice Ao62 t177.length co62) : Value).ownBlock ∧ some k_ ≠ ((.slice Ao72 t182.length co72) : Value).ownBlock) (.slice Ao42 t166.length co42) t166) ∧ Aside0 (Kd.R k55 55 wc w.heap.size (fun k_ => some k_ ≠ ((.slice Ao42 t166.length co42) : Value).ownBlock ∧ some k_ ≠ ((.slice Ao62 t177.length co62) : Value).ownBlock ∧ some k_ ≠ ((.slice Ao72 t182.length co72) : Value).ownBlock) (.slice Ao52 t172.length co52) t199) ∧ Aside0 (Kd.R k55 55 wc w.heap.size (fun k_ => some k_ ≠ ((.slice Ao42 t166.length co42) : Value).ownBlock ∧ some k_ ≠ ((.slice Ao52 t172.length co52) : Value).ownBlock ∧ some k_ ≠ ((.slice Ao72 t182.length co72) : Value).ownBlock) (.slice Ao62 t177.length co62) t201) ∧ Aside0 (Kd.R k55 55 wc w.heap.size (fun k_ => some k_ ≠ ((.slice Ao42 t166.length co42) : Value).ownBlock ∧ some k_ ≠ ((.slice Ao52 t172.length co52) : Value).ownBlock ∧ some k_ ≠ ((.slice Ao62 t177.length co62) : Value).ownBlock) (.slice Ao72 t182.length co72) t182) ∧ Aside0 (wc.heap[gb153]? = some (.cells #[.int .i64 a0_0, (.slice A0_1 l0_1.length c0_1)] 37 (0, 0))) ∧ Aside0 (wc.heap[gb154]? = some (.cells #[.int .i64 a1_0, (.slice A1_1 l1_1.length c1_1)] 37 (0, 0))) ∧ Aside0 (wc.heap[gb170]? = some (.cells #[.int .i64 t165, (.slice Ao42 t166.length co42)] 28 (0, 0))) ∧ Aside0 (wc.heap[gb175]? = some (.cells #[.int .i64 t171, (.slice Ao52 t172.length co52)] 28 (0, 0))) ∧ Aside0 (wc.heap[gb180]? = some (.cells #[.int .i64 t176, (.slice Ao62 t177.length co62)] 28 (0, 0))) ∧ Aside0 (wc.heap[gb186]? = some (.cells #[.int .i64 t181, (.slice Ao72 t182.length co72)] 28 (0, 0))) ∧ Aside0 (Below w.heap.size w wc))
   case first =>
    have H := HC108.out
    clear HC108
    by_cases c130 : t200 < 0
    ·
     rw [if_pos c130] at H
     have c130b0 : decide (t200 < 0) = true := decide_eq_true c130
     clear c130
     (first | rw [c130b0] | (simp only [i64_w, i32_w]; rw [c130b0]) | skip)
     have H' := mk_ H
     clear H
     go_wp2
     go_meet
     case rel => exact ⟨_, (true), (by first | rfl | (simp; done) | (simp [*]; done)), H', ⟨by have := HJ24.out; first | omega | exact Nat.le_refl _⟩, ⟨by (with_reducible repeat (first | apply Kd.R_alloc | apply Kd.R_drewN | apply Kd.R_drew)); exact Kd.R_mono HO_171001.out (fun _ hk => ⟨hk.1, ⟨hk.2.1, hk.2.2.1⟩⟩)⟩, ⟨by (with_reducible repeat (first | apply Kd.R_alloc | apply Kd.R_drewN | apply Kd.R_drew)); exact Kd.R_mono HO_176001.out (fun _ hk => ⟨hk.1, ⟨hk.2.1, hk.2.2.1⟩⟩)⟩, ⟨by (with_reducible repeat (first | apply Kd.R_alloc | apply Kd.R_drewN | apply Kd.R_drew)); exact Kd.R_mono HO_181001.out (fun _ hk => ⟨hk.1, ⟨hk.2.1, hk.2.2.1⟩⟩)⟩, ⟨by (with_reducible repeat (first | apply Kd.R_alloc | apply Kd.R_drewN | apply Kd.R_drew)); exact Kd.R_mono HO_187001.out (fun _ hk => ⟨hk.1, ⟨hk.2.1, hk.2.2.1⟩⟩)⟩, ⟨by (with_reducible repeat (first | refine blk_drewN ?_ _ | refine blk_drew ?_ | refine blk_alloc ?_ _)); exact BK153.out⟩, ⟨by (with_reducible repeat (first | refine blk_drewN ?_ _ | refine blk_drew ?_ | refine blk_alloc ?_ _)); exact BK154.out⟩, ⟨by (with_reducible repeat (first | refine blk_drewN ?_ _ | refine blk_drew ?_ | refine blk_alloc ?_ _)); exact BK170.out⟩, ⟨by (with_reducible repeat (first | refine blk_drewN ?_ _ | refine blk_drew ?_ | refine blk_alloc ?_ _)); exact BK175.out⟩, ⟨by (with_reducible repeat (first | refine blk_drewN ?_ _ | refine blk_drew ?_ | refine blk_alloc ?_ _)); exact BK180.out⟩, ⟨by (with_reducible repeat (first | refine blk_drewN ?_ _ | refine blk_drew ?_ | refine blk_alloc ?_ _)); exact BK186.out⟩, ⟨by repeat (first | (with_reducible first | exact HB.out | apply below_alloc | apply pw_below_drewN | apply below_drew1 | refine below_set ?_ GE153.out | refine below_set ?_ GE154.out | refine below_set ?_ GE170.out | refine below_set ?_ GE175.out | refine below_set ?_ GE180.out | refine below_set ?_ GE186.out) | exact HB.out)⟩⟩
    rw [if_neg c130] at H
    have c130b0 : decide (t200 < 0) = false := decide_eq_false c130
    clear c130
    (first | rw [c130b0] | (simp only [i64_w, i32_w]; rw [c130b0]) | skip)
    replace H := Option.bind_eq_some_iff.mp H
    obtain ⟨t202, A1310, H⟩ := H
    replace H : (if t202 = true then (laws_FnExactNetJoin.j1 kj24 t169 (t185 != t169) a0_0 l0_1 a1_0 l1_1 t165 t166 t181 t182) else (laws_FnExactNetJoin.j1 kj24 t169 true a0_0 l0_1 a1_0 l1_1 t165 t166 t181 t182)) = some r := H
    have A131 := mk_ A1310
    clear A1310
    by_cases c132 : t202 = true
    ·
     subst c132
     have H1 : (laws_FnExactNetJoin.j1 kj24 t169 (t185 != t169) a0_0 l0_1 a1_0 l1_1 t165 t166 t181 t182) = some r := by rw [if_pos rfl] at H; exact H
     clear H
     have H := H1
     clear H1
     have H' := mk_ H
     clear H
     have hnb133 := NB186_153.out
     have hnc133 := NB153_186.out
     have hnb134 := NB186_154.out
     have hnc134 := NB154_186.out
     have hnb135 := NB186_170.out
     have hnc135 := NB170_186.out
     have hnb136 := NB186_175.out
     have hnc136 := NB175_186.out
     have hnb137 := NB186_180.out
     have hnc137 := NB180_186.out
     have hcz138_0 : w129.cell? ⟨gb186, 0, none⟩ = some (.int .i64 t181) := b4_ BK186.out 0 rfl
     have hcz138_1 : w129.cell? ⟨gb186, 1, none⟩ = some (.slice Ao72 t182.length co72) := b4_ BK186.out 1 rfl
     have hfz138_0 := blk_frozen BK186.out 0
     have hfz138_1 := blk_frozen BK186.out 1
     have hnb139 := NB170_153.out
     have hnc139 := NB153_170.out
     have hnb140 := NB170_154.out
     have hnc140 := NB154_170.out
     have hnb141 := NB170_175.out
     have hnc141 := NB175_170.out
     have hnb142 := NB170_180.out
     have hnc142 := NB180_170.out
     have hcz143_0 : w129.cell? ⟨gb170, 0, none⟩ = some (.int .i64 t165) := b4_ BK170.out 0 rfl
     have hcz143_1 : w129.cell? ⟨gb170, 1, none⟩ = some (.slice Ao42 t166.length co42) := b4_ BK170.out 1 rfl
     have hfz143_0 := blk_frozen BK170.out 0
     have hfz143_1 := blk_frozen BK170.out 1
     go_wp2_with (first | (go_at_call 20; (with_reducible refine (laws_eqNet.calls kj24 t181 _ _ t182 t165 _ _ t166 true _ ?side1 ?side2 ?side3 ?side4 A131.out).mono ?_); (case side1 => repeat (first | exact (Kd.R_reads' HO_187001.out).2.2 | (with_reducible refine Kd.C_alloc ?_ _) | (with_reducible refine Kd.C_drewN ?_ _) | (with_reducible refine Kd.C_drew ?_))); (case side2 => exact (Kd.R_reads' HO_187001.out).2.1); (case side3 => repeat (first | exact (Kd.R_reads' HO_171001.out).2.2 | (with_reducible refine Kd.C_alloc ?_ _) | (with_reducible refine Kd.C_drewN ?_ _) | (with_reducible refine Kd.C_drew ?_))); (case side4 => exact (Kd.R_reads' HO_171001.out).2.1); rintro e w144 ⟨rfl, hb⟩; have n0_ := mk_ (Kd.R_below HO_171001.out hb); have n1_ := mk_ (Kd.R_below HO_176001.out hb); have n2_ := mk_ (Kd.R_below HO_181001.out hb); have n3_ := mk_ (Kd.R_below HO_187001.out hb); have n4_ := mk_ (Kd.R_below HO191.out hb); have n5_ := mk_ (Kd.R_below HO196.out hb); have n6_ := mk_ (blk_below BK153.out hb); have n7_ := mk_ (blk_below BK154.out hb); have n8_ := mk_ (blk_below BK170.out hb); have n9_ := mk_ (blk_below BK175.out hb); have n10_ := mk_ (blk_below BK180.out hb); have n11_ := mk_ (blk_below BK186.out hb); have n12_ := mk_ (below_step (by repeat (first | (with_reducible first | exact HB.out | apply below_alloc | apply pw_below_drewN | apply below_drew1 | refine below_set ?_ GE153.out | refine below_set ?_ GE154.out | refine below_set ?_ GE170.out | refine below_set ?_ GE175.out | refine below_set ?_ GE180.out | refine below_set ?_ GE186.out) | exact HB.out)) hb); replace HO_171001 := n0_; replace HO_176001 := n1_; replace HO_181001 := n2_; replace HO_187001 := n3_; replace HO191 := n4_; replace HO196 := n5_; replace BK153 := n6_; replace BK154 := n7_; replace BK170 := n8_; replace BK175 := n9_; replace BK180 := n10_; replace BK186 := n11_; replace HB := n12_; clear n0_ n1_ n2_ n3_ n4_ n5_ n6_ n7_ n8_ n9_ n10_ n11_ n12_; (try clear hb); (try clear hb2); (try clear hk); (try clear hi)))
     go_meet
     case rel => exact ⟨_, ((t185 != t169)), (by first | rfl | (simp; done) | (simp [*]; done)), H', ⟨by have := HJ24.out; first | omega | exact Nat.le_refl _⟩, ⟨by (with_reducible repeat (first | apply Kd.R_alloc | apply Kd.R_drewN | apply Kd.R_drew)); exact Kd.R_mono HO_171001.out (fun _ hk => ⟨hk.1, ⟨hk.2.1, hk.2.2.1⟩⟩)⟩, ⟨by (with_reducible repeat (first | apply Kd.R_alloc | apply Kd.R_drewN | apply Kd.R_drew)); exact Kd.R_mono HO_176001.out (fun _ hk => ⟨hk.1, ⟨hk.2.1, hk.2.2.1⟩⟩)⟩, ⟨by (with_reducible repeat (first | apply Kd.R_alloc | apply Kd.R_drewN | apply Kd.R_drew)); exact Kd.R_mono HO_181001.out (fun _ hk => ⟨hk.1, ⟨hk.2.1, hk.2.2.1⟩⟩)⟩, ⟨by (with_reducible repeat (first | apply Kd.R_alloc | apply Kd.R_drewN | apply Kd.R_drew)); exact Kd.R_mono HO_187001.out (fun _ hk => ⟨hk.1, ⟨hk.2.1, hk.2.2.1⟩⟩)⟩, ⟨by (with_reducible repeat (first | refine blk_drewN ?_ _ | refine blk_drew ?_ | refine blk_alloc ?_ _)); exact BK153.out⟩, ⟨by (with_reducible repeat (first | refine blk_drewN ?_ _ | refine blk_drew ?_ | refine blk_alloc ?_ _)); exact BK154.out⟩, ⟨by (with_reducible repeat (first | refine blk_drewN ?_ _ | refine blk_drew ?_ | refine blk_alloc ?_ _)); exact BK170.out⟩, ⟨by (with_reducible repeat (first | refine blk_drewN ?_ _ | refine blk_drew ?_ | refine blk_alloc ?_ _)); exact BK175.out⟩, ⟨by (with_reducible repeat (first | refine blk_drewN ?_ _ | refine blk_drew ?_ | refine blk_alloc ?_ _)); exact BK180.out⟩, ⟨by (with_reducible repeat (first | refine blk_drewN ?_ _ | refine blk_drew ?_ | refine blk_alloc ?_ _)); exact BK186.out⟩, ⟨by repeat (first | (with_reducible first | exact HB.out | apply below_alloc | apply pw_below_drewN | apply below_drew1 | refine below_set ?_ GE153.out | refine below_set ?_ GE154.out | refine below_set ?_ GE170.out | refine below_set ?_ GE175.out | refine below_set ?_ GE180.out | refine below_set ?_ GE186.out) | exact HB.out)⟩⟩
    replace c132 := Bool.eq_false_iff.mpr c132
    subst c132
    have H1 : (laws_FnExactNetJoin.j1 kj24 t169 true a0_0 l0_1 a1_0 l1_1 t165 t166 t181 t182) = some r := by rw [if_neg (show ¬ (false = true) by decide)] at H; exact H
    clear H
    have H := H1
    clear H1
    have H' := mk_ H
    clear H
    have hnb145 := NB186_153.out
    have hnc145 := NB153_186.out
    have hnb146 := NB186_154.out
    have hnc146 := NB154_186.out
    have hnb147 := NB186_170.out
    have hnc147 := NB170_186.out
    have hnb148 := NB186_175.out
    have hnc148 := NB175_186.out
    have hnb149 := NB186_180.out
    have hnc149 := NB180_186.out
    have hcz150_0 : w129.cell? ⟨gb186, 0, none⟩ = some (.int .i64 t181) := b4_ BK186.out 0 rfl
    have hcz150_1 : w129.cell? ⟨gb186, 1, none⟩ = some (.slice Ao72 t182.length co72) := b4_ BK186.out 1 rfl
    have hfz150_0 := blk_frozen BK186.out 0
    have hfz150_1 := blk_frozen BK186.out 1
    have hnb151 := NB170_153.out
    have hnc151 := NB153_170.out
    have hnb152 := NB170_154.out
    have hnc152 := NB154_170.out
    have hnb153 := NB170_175.out
    have hnc153 := NB175_170.out
    have hnb154 := NB170_180.out
    have hnc154 := NB180_170.out
    have hcz155_0 : w129.cell? ⟨gb170, 0, none⟩ = some (.int .i64 t165) := b4_ BK170.out 0 rfl
    have hcz155_1 : w129.cell? ⟨gb170, 1, none⟩ = some (.slice Ao42 t166.length co42) := b4_ BK170.out 1 rfl
    have hfz155_0 := blk_frozen BK170.out 0
    have hfz155_1 := blk_frozen BK170.out 1
    go_wp2_with (first | (go_at_call 20; (with_reducible refine (laws_eqNet.calls kj24 t181 _ _ t182 t165 _ _ t166 false _ ?side1 ?side2 ?side3 ?side4 A131.out).mono ?_); (case side1 => repeat (first | exact (Kd.R_reads' HO_187001.out).2.2 | (with_reducible refine Kd.C_alloc ?_ _) | (with_reducible refine Kd.C_drewN ?_ _) | (with_reducible refine Kd.C_drew ?_))); (case side2 => exact (Kd.R_reads' HO_187001.out).2.1); (case side3 => repeat (first | exact (Kd.R_reads' HO_171001.out).2.2 | (with_reducible refine Kd.C_alloc ?_ _) | (with_reducible refine Kd.C_drewN ?_ _) | (with_reducible refine Kd.C_drew ?_))); (case side4 => exact (Kd.R_reads' HO_171001.out).2.1); rintro e w156 ⟨rfl, hb⟩; have n0_ := mk_ (Kd.R_below HO_171001.out hb); have n1_ := mk_ (Kd.R_below HO_176001.out hb); have n2_ := mk_ (Kd.R_below HO_181001.out hb); have n3_ := mk_ (Kd.R_below HO_187001.out hb); have n4_ := mk_ (Kd.R_below HO191.out hb); have n5_ := mk_ (Kd.R_below HO196.out hb); have n6_ := mk_ (blk_below BK153.out hb); have n7_ := mk_ (blk_below BK154.out hb); have n8_ := mk_ (blk_below BK170.out hb); have n9_ := mk_ (blk_below BK175.out hb); have n10_ := mk_ (blk_below BK180.out hb); have n11_ := mk_ (blk_below BK186.out hb); have n12_ := mk_ (below_step (by repeat (first | (with_reducible first | exact HB.out | apply below_alloc | apply pw_below_drewN | apply below_drew1 | refine below_set ?_ GE153.out | refine below_set ?_ GE154.out | refine below_set ?_ GE170.out | refine below_set ?_ GE175.out | refine below_set ?_ GE180.out | refine below_set ?_ GE186.out) | exact HB.out)) hb); replace HO_171001 := n0_; replace HO_176001 := n1_; replace HO_181001 := n2_; replace HO_187001 := n3_; replace HO191 := n4_; replace HO196 := n5_; replace BK153 := n6_; replace BK154 := n7_; replace BK170 := n8_; replace BK175 := n9_; replace BK180 := n10_; replace BK186 := n11_; replace HB := n12_; clear n0_ n1_ n2_ n3_ n4_ n5_ n6_ n7_ n8_ n9_ n10_ n11_ n12_; (try clear hb); (try clear hb2); (try clear hk); (try clear hi)))
    go_meet
    case rel => exact ⟨_, (true), (by first | rfl | (simp; done) | (simp [*]; done)), H', ⟨by have := HJ24.out; first | omega | exact Nat.le_refl _⟩, ⟨by (with_reducible repeat (first | apply Kd.R_alloc | apply Kd.R_drewN | apply Kd.R_drew)); exact Kd.R_mono HO_171001.out (fun _ hk => ⟨hk.1, ⟨hk.2.1, hk.2.2.1⟩⟩)⟩, ⟨by (with_reducible repeat (first | apply Kd.R_alloc | apply Kd.R_drewN | apply Kd.R_drew)); exact Kd.R_mono HO_176001.out (fun _ hk => ⟨hk.1, ⟨hk.2.1, hk.2.2.1⟩⟩)⟩, ⟨by (with_reducible repeat (first | apply Kd.R_alloc | apply Kd.R_drewN | apply Kd.R_drew)); exact Kd.R_mono HO_181001.out (fun _ hk => ⟨hk.1, ⟨hk.2.1, hk.2.2.1⟩⟩)⟩, ⟨by (with_reducible repeat (first | apply Kd.R_alloc | apply Kd.R_drewN | apply Kd.R_drew)); exact Kd.R_mono HO_187001.out (fun _ hk => ⟨hk.1, ⟨hk.2.1, hk.2.2.1⟩⟩)⟩, ⟨by (with_reducible repeat (first | refine blk_drewN ?_ _ | refine blk_drew ?_ | refine blk_alloc ?_ _)); exact BK153.out⟩, ⟨by (with_reducible repeat (first | refine blk_drewN ?_ _ | refine blk_drew ?_ | refine blk_alloc ?_ _)); exact BK154.out⟩, ⟨by (with_reducible repeat (first | refine blk_drewN ?_ _ | refine blk_drew ?_ | refine blk_alloc ?_ _)); exact BK170.out⟩, ⟨by (with_reducible repeat (first | refine blk_drewN ?_ _ | refine blk_drew ?_ | refine blk_alloc ?_ _)); exact BK175.out⟩, ⟨by (with_reducible repeat (first | refine blk_drewN ?_ _ | refine blk_drew ?_ | refine blk_alloc ?_ _)); exact BK180.out⟩, ⟨by (with_reducible repeat (first | refine blk_drewN ?_ _ | refine blk_drew ?_ | refine blk_alloc ?_ _)); exact BK186.out⟩, ⟨by repeat (first | (with_reducible first | exact HB.out | apply below_alloc | apply pw_below_drewN | apply below_drew1 | refine below_set ?_ GE153.out | refine below_set ?_ GE154.out | refine below_set ?_ GE170.out | refine below_set ?_ GE175.out | refine below_set ?_ GE180.out | refine below_set ?_ GE186.out) | exact HB.out)⟩⟩
   case rest =>
    clear HC108
    try clear c1
    try clear c2
    try clear p2
    try clear c7
    try clear c8
    try clear c9
    try clear c10
    try clear c11
    try clear c12
    try clear c13
    try clear c14
    try clear c15
    try clear c18
    try clear c20
    try clear c21
    try clear c70
    try clear c74
    try clear c75
    try clear c76
    try clear c77
    try clear c78
    try clear c79
    try clear c81
    try clear c82
    try clear c83
    try clear c84
    try clear c87
    try clear c88
    try clear c89
    try clear c90
    try clear c91
    try clear c93
    try clear c94
    try clear c95
    try clear c96
    try clear c99
    try clear c102
    try clear c105
    try clear c117
    try clear c118
    try clear c119
    try clear c120
    try clear c121
    try clear c124
    try clear c125
    try clear c126
    try clear c127
    try clear c130
    try clear c130b0
    try clear c132
    try clear c133
    try clear c134
    try clear c135
    try clear c136
    try clear c137
    try clear c139
    try clear c140
    try clear c141
    try clear c142
    try clear c145
    try clear c146
    try clear c147
    try clear c148
    try clear c149
    try clear c151
    try clear c152
    try clear c153
    try clear c154
    try clear hcz122_0
    try clear hcz122_1
    try clear hcz128_0
    try clear hcz128_1
    try clear hcz138_0
    try clear hcz138_1
    try clear hcz143_0
    try clear hcz143_1
    try clear hcz150_0
    try clear hcz150_1
    try clear hcz155_0
    try clear hcz155_1
    try clear hcz45_0
    try clear hcz45_1
    try clear hcz51_0
    try clear hcz51_1
    try clear hcz54_0
    try clear hcz54_1
    try clear hcz61_0
    try clear hcz61_1
    try clear hcz63_0
    try clear hcz63_1
    try clear hcz71_0
    try clear hcz71_1
    try clear hcz80_0
    try clear hcz80_1
    try clear hcz85_0
    try clear hcz85_1
    try clear hcz92_0
    try clear hcz92_1
    try clear hcz97_0
    try clear hcz97_1
    try clear hfz122_0
    try clear hfz122_1
    try clear hfz128_0
    try clear hfz128_1
    try clear hfz138_0
    try clear hfz138_1
    try clear hfz143_0
    try clear hfz143_1
    try clear hfz150_0
    try clear hfz150_1
    try clear hfz155_0
    try clear hfz155_1
    try clear hfz45_0
    try clear hfz45_1
    try clear hfz51_0
    try clear hfz51_1
    try clear hfz54_0
    try clear hfz54_1
    try clear hfz61_0
    try clear hfz61_1
    try clear hfz63_0
    try clear hfz63_1
    try clear hfz71_0
    try clear hfz71_1
    try clear hfz80_0
    try clear hfz80_1
    try clear hfz85_0
    try clear hfz85_1
    try clear hfz92_0
    try clear hfz92_1
    try clear hfz97_0
    try clear hfz97_1
    obtain ⟨kq, x82_107, rfl, HA, HJ107, HO_171001, HO_176001, HO_181001, HO_187001, BK153, BK154, BK170, BK175, BK180, BK186, HB⟩ := hcut
    have hl176001_107 := (Kd.R_reads' HO_176001.out).1
    rw [hl176001_107] at HO_176001
    (try simp only [hl176001_107])
    (try simp only [hl176001_107] at BK153)
    (try simp only [hl176001_107] at BK154)
    (try simp only [hl176001_107] at BK170)
    (try simp only [hl176001_107] at BK175)
    (try simp only [hl176001_107] at BK180)
    (try simp only [hl176001_107] at BK186)
    (try simp only [hl176001_107] at HO_171001)
    (try simp only [hl176001_107] at HO_181001)
    (try simp only [hl176001_107] at HO_187001)
    have hl181001_107 := (Kd.R_reads' HO_181001.out).1
    rw [hl181001_107] at HO_181001
    (try simp only [hl181001_107])
    (try simp only [hl181001_107] at BK153)
    (try simp only [hl181001_107] at BK154)
    (try simp only [hl181001_107] at BK170)
    (try simp only [hl181001_107] at BK175)
    (try simp only [hl181001_107] at BK180)
    (try simp only [hl181001_107] at BK186)
    (try simp only [hl181001_107] at HO_171001)
    (try simp only [hl181001_107] at HO_176001)
    (try simp only [hl181001_107] at HO_187001)
    cases kq with
    | zero => exact absurd HA.out (by simp [laws_FnExactNetJoin.j1])
    | succ kj107 =>
     have H := HA.out
     clear HA
     simp only [laws_FnExactNetJoin.j1] at H
     by_cases c157 : x82_107 = true
     ·
      subst c157
      have H1 : (some false) = some r := by rw [if_pos rfl] at H; exact H
      clear H
      have H := H1
      clear H1
      exact absurd ((Option.some.inj H).trans HTRUE_.out) (by decide)
     replace c157 := Bool.eq_false_iff.mpr c157
     subst c157
     have H1 : ((laws_markNet.f kj107 t181 t182 1).bind fun bt203 => ((laws_heldNet.f kj107 t181 bt203.2 1).bind fun t205 => (if t205 < 0 then (some false) else (if t205 = bt203.1 then ((laws_toNet.f kj107 a0_0 l0_1).bind fun bt206 => ((laws_toNet.f kj107 a1_0 l1_1).bind fun bt210 => ((impl_NetJoin.f kj107 bt206.1 bt206.2 bt210.1 bt210.2).bind fun bt214 => ((laws_eqNet.f kj107 bt214.1 bt214.2.1 t165 t166).bind fun t220 => (if t220 = true then (laws_FnExactNetJoin.j2 kj107 bt203.1 (bt214.2.2 != t169) t181 bt203.2) else (laws_FnExactNetJoin.j2 kj107 bt203.1 true t181 bt203.2)))))) else (some false))))) = some r := by rw [if_neg (show ¬ (false = true) by decide)] at H; exact H
     clear H
     have H := H1
     clear H1
     replace H := Option.bind_eq_some_iff.mp H
     obtain ⟨⟨t203, t204⟩, A1580, H⟩ := H
     replace H : ((laws_heldNet.f kj107 t181 t204 1).bind fun t205 => (if t205 < 0 then (some false) else (if t205 = t203 then ((laws_toNet.f kj107 a0_0 l0_1).bind fun bt206 => ((laws_toNet.f kj107 a1_0 l1_1).bind fun bt210 => ((impl_NetJoin.f kj107 bt206.1 bt206.2 bt210.1 bt210.2).bind fun bt214 => ((laws_eqNet.f kj107 bt214.1 bt214.2.1 t165 t166).bind fun t220 => (if t220 = true then (laws_FnExactNetJoin.j2 kj107 t203 (bt214.2.2 != t169) t181 t204) else (laws_FnExactNetJoin.j2 kj107 t203 true t181 t204)))))) else (some false)))) = some r := H
     have A158 := mk_ A1580
     clear A1580
     replace H := Option.bind_eq_some_iff.mp H
     obtain ⟨t205, A1590, H⟩ := H
     replace H : (if t205 < 0 then (some false) else (if t205 = t203 then ((laws_toNet.f kj107 a0_0 l0_1).bind fun bt206 => ((laws_toNet.f kj107 a1_0 l1_1).bind fun bt210 => ((impl_NetJoin.f kj107 bt206.1 bt206.2 bt210.1 bt210.2).bind fun bt214 => ((laws_eqNet.f kj107 bt214.1 bt214.2.1 t165 t166).bind fun t220 => (if t220 = true then (laws_FnExactNetJoin.j2 kj107 t203 (bt214.2.2 != t169) t181 t204) else (laws_FnExactNetJoin.j2 kj107 t203 true t181 t204)))))) else (some false))) = some r := H
     have A159 := mk_ A1590
     clear A1590
     by_cases c160 : t205 < 0
     ·
      rw [if_pos c160] at H
      have c160b0 : decide (t205 < 0) = true := decide_eq_true c160
      clear c160
      exact absurd ((Option.some.inj H).trans HTRUE_.out) (by decide)
     rw [if_neg c160] at H
     have c160b0 : decide (t205 < 0) = false := decide_eq_false c160
     clear c160
     by_cases c161 : t205 = t203
     rotate_left
     ·
      rw [if_neg c161] at H
      have c161b0 : (t205 == t203) = false := beq_eq_false_iff_ne.mpr c161
      have c161b1 : (t205 != t203) = true := bne_iff_ne.mpr c161
      exact absurd ((Option.some.inj H).trans HTRUE_.out) (by decide)
     rw [if_pos c161] at H
     have c161b0 : (t205 == t203) = true := beq_iff_eq.mpr c161
     have c161b1 : (t205 != t203) = false := bne_eq_false_iff_eq.mpr c161
     clear c161
     replace H := Option.bind_eq_some_iff.mp H
     obtain ⟨⟨t206, t207⟩, A1620, H⟩ := H
     replace H : ((laws_toNet.f kj107 a1_0 l1_1).bind fun bt210 => ((impl_NetJoin.f kj107 t206 t207 bt210.1 bt210.2).bind fun bt214 => ((laws_eqNet.f kj107 bt214.1 bt214.2.1 t165 t166).bind fun t220 => (if t220 = true then (laws_FnExactNetJoin.j2 kj107 t203 (bt214.2.2 != t169) t181 t204) else (laws_FnExactNetJoin.j2 kj107 t203 true t181 t204))))) = some r := H
     have A162 := mk_ A1620
     clear A1620
     replace H := Option.bind_eq_some_iff.mp H
     obtain ⟨⟨t210, t211⟩, A1630, H⟩ := H
     replace H : ((impl_NetJoin.f kj107 t206 t207 t210 t211).bind fun bt214 => ((laws_eqNet.f kj107 bt214.1 bt214.2.1 t165 t166).bind fun t220 => (if t220 = true then (laws_FnExactNetJoin.j2 kj107 t203 (bt214.2.2 != t169) t181 t204) else (laws_FnExactNetJoin.j2 kj107 t203 true t181 t204)))) = some r := H
     have A163 := mk_ A1630
     clear A1630
     replace H := Option.bind_eq_some_iff.mp H
     obtain ⟨⟨t214, t215, t218⟩, A1640, H⟩ := H
     replace H : ((laws_eqNet.f kj107 t214 t215 t165 t166).bind fun t220 => (if t220 = true then (laws_FnExactNetJoin.j2 kj107 t203 (t218 != t169) t181 t204) else (laws_FnExactNetJoin.j2 kj107 t203 true t181 t204))) = some r := H
     have A164 := mk_ A1640
     clear A1640
     have HC165 := mk_ H
     clear H
     have hnb166 := NB186_153.out
     have hnc166 := NB153_186.out
     have hnb167 := NB186_154.out
     have hnc167 := NB154_186.out
     have hnb168 := NB186_170.out
     have hnc168 := NB170_186.out
     have hnb169 := NB186_175.out
     have hnc169 := NB175_186.out
     have hnb170 := NB186_180.out
     have hnc170 := NB180_186.out
     have hcz171_0 : wc.cell? ⟨gb186, 0, none⟩ = some (.int .i64 t181) := b4_ BK186.out 0 rfl
     have hcz171_1 : wc.cell? ⟨gb186, 1, none⟩ = some (.slice Ao72 t182.length co72) := b4_ BK186.out 1 rfl
     have hfz171_0 := blk_frozen BK186.out 0
     have hfz171_1 := blk_frozen BK186.out 1
     try go_wp2_with (first | ((with_reducible refine gate_callee (f := 21) rfl ?_); refine goesL_ (some 85) rfl rfl Try.func21 (by kernel_rfl) rfl #[.agg #[.int .i64 t181, .slice Ao72 t182.length co72], .int .i64 1] rfl (by (try simp only [List.map_toArray, List.map_cons, List.map_nil]); first | done | rfl) ?_; (with_reducible refine (laws_markNet.calls kj107 t181 (fun k_ => some k_ = (.slice Ao72 t182.length co72 : Value).ownBlock) (.slice Ao72 t182.length co72) t182 1 t203 t204 w _ ?side1 ?side2 A158.out).mono ?_); (case side1 => repeat (first | (with_reducible first | exact HB.out | apply below_alloc | apply pw_below_drewN | apply below_drew1 | refine below_set ?_ GE153.out | refine below_set ?_ GE154.out | refine below_set ?_ GE170.out | refine below_set ?_ GE175.out | refine below_set ?_ GE180.out | refine below_set ?_ GE186.out) | exact HB.out)); (case side2 => exact Kd.R_tight rfl HO_187001.out); rintro e w172 ⟨rfl, hy0, hb, hkp⟩; refine ⟨_, rfl, ?_⟩; have n0_ := mk_ (Kd.R_mono (ok' := fun k_ => some k_ ≠ (.slice Ao52 t199.length co52 : Value).ownBlock ∧ some k_ ≠ (.slice Ao62 t201.length co62 : Value).ownBlock ∧ some k_ ≠ (.slice Ao72 t182.length co72 : Value).ownBlock) (Kd.R_keptB (HO_171001.out) hkp (fun k_ hk_ hs_ => by first | exact (hk_.2.2) hs_ | exact absurd hs_ (by first | (simp only [hk_, ne_eq, not_false_eq_true, and_self, and_true, true_and, implies_true]; done) | (simp [hk_]; done)))) (fun k_ hk_ => by first | exact ⟨hk_.1.1, hk_.1.2.1, hk_.1.2.2⟩ | (simp only [hk_, ne_eq, not_false_eq_true, and_self, and_true, true_and, implies_true]; done) | (simp [hk_]; done))); have n1_ := mk_ (Kd.R_mono (ok' := fun k_ => some k_ ≠ (.slice Ao42 t166.length co42 : Value).ownBlock ∧ some k_ ≠ (.slice Ao62 t201.length co62 : Value).ownBlock ∧ some k_ ≠ (.slice Ao72 t182.length co72 : Value).ownBlock) (Kd.R_keptB (HO_176001.out) hkp (fun k_ hk_ hs_ => by first | exact (hk_.2.2) hs_ | exact absurd hs_ (by first | (simp only [hk_, ne_eq, not_false_eq_true, and_self, and_true, true_and, implies_true]; done) | (simp [hk_]; done)))) (fun k_ hk_ => by first | exact ⟨hk_.1.1, hk_.1.2.1, hk_.1.2.2⟩ | (simp only [hk_, ne_eq, not_false_eq_true, and_self, and_true, true_and, implies_true]; done) | (simp [hk_]; done))); have n2_ := mk_ (Kd.R_mono (ok' := fun k_ => some k_ ≠ (.slice Ao42 t166.length co42 : Value).ownBlock ∧ some k_ ≠ (.slice Ao52 t199.length co52 : Value).ownBlock ∧ some k_ ≠ (.slice Ao72 t182.length co72 : Value).ownBlock) (Kd.R_keptB (HO_181001.out) hkp (fun k_ hk_ hs_ => by first | exact (hk_.2.2) hs_ | exact absurd hs_ (by first | (simp only [hk_, ne_eq, not_false_eq_true, and_self, and_true, true_and, implies_true]; done) | (simp [hk_]; done)))) (fun k_ hk_ => by first | exact ⟨hk_.1.1, hk_.1.2.1, hk_.1.2.2⟩ | (simp only [hk_, ne_eq, not_false_eq_true, and_self, and_true, true_and, implies_true]; done) | (simp [hk_]; done))); have n3_ := mk_ (Kd.R_reok rfl hy0 (fun k_ e_ => HO_187001.out.1 k_ e_)); have n4_ := mk_ (blk_kept BK153.out hkp (fun hs_ => (fun e_ => (Kd.R_ne HO_187001.out BK153.out (by decide)) e_) hs_)); have n5_ := mk_ (blk_kept BK154.out hkp (fun hs_ => (fun e_ => (Kd.R_ne HO_187001.out BK154.out (by decide)) e_) hs_)); have n6_ := mk_ (blk_kept BK170.out hkp (fun hs_ => (fun e_ => (Kd.R_ne HO_187001.out BK170.out (by decide)) e_) hs_)); have n7_ := mk_ (blk_kept BK175.out hkp (fun hs_ => (fun e_ => (Kd.R_ne HO_187001.out BK175.out (by decide)) e_) hs_)); have n8_ := mk_ (blk_kept BK180.out hkp (fun hs_ => (fun e_ => (Kd.R_ne HO_187001.out BK180.out (by decide)) e_) hs_)); have n9_ := mk_ (blk_kept BK186.out hkp (fun hs_ => (fun e_ => (Kd.R_ne HO_187001.out BK186.out (by decide)) e_) hs_)); have n10_ := mk_ (hb); replace HO_171001 := n0_; replace HO_176001 := n1_; replace HO_181001 := n2_; replace HO_187001 := n3_; replace BK153 := n4_; replace BK154 := n5_; replace BK170 := n6_; replace BK175 := n7_; replace BK180 := n8_; replace BK186 := n9_; replace HB := n10_; clear n0_ n1_ n2_ n3_ n4_ n5_ n6_ n7_ n8_ n9_ n10_; (try clear hb); (try clear hkp); (try clear hy0); have hcz173_0 : w172.cell? ⟨gb186, 0, none⟩ = some (.int .i64 t181) := b4_ BK186.out 0 rfl; have hcz173_1 : w172.cell? ⟨gb186, 1, none⟩ = some (.slice Ao72 t182.length co72) := b4_ BK186.out 1 rfl; have hfz173_0 := blk_frozen BK186.out 0; have hfz173_1 := blk_frozen BK186.out 1) | ((with_reducible refine gate_callee (f := 22) rfl ?_); refine goesL_ (some 88) rfl rfl Try.func22 (by kernel_rfl) rfl #[.agg #[.int .i64 t181, .slice Ao72 t204.length co72], .int .i64 1] rfl (by (try simp only [List.map_toArray, List.map_cons, List.map_nil]); first | done | (rw [show t204.length = t182.length from (Kd.R_reads' HO_187001.out).1.symm] <;> rfl) | rfl | (simp only [List.length_drop, List.length_take]; rfl)) ?_; (with_reducible refine (laws_heldNet.calls kj107 t181 _ _ t204 1 t205 _ ?side1 ?side2 A159.out).mono ?_); (case side1 => repeat (first | exact (Kd.R_reads' HO_187001.out).2.2 | (with_reducible refine Kd.C_alloc ?_ _) | (with_reducible refine Kd.C_drewN ?_ _) | (with_reducible refine Kd.C_drew ?_))); (case side2 => rw [show t204.length = t182.length from (Kd.R_reads' HO_187001.out).1.symm]; exact (Kd.R_reads' HO_187001.out).2.1); rintro e w174 ⟨rfl, hb⟩; refine ⟨_, rfl, ?_⟩; have n0_ := mk_ (Kd.R_below HO_171001.out hb); have n1_ := mk_ (Kd.R_below HO_176001.out hb); have n2_ := mk_ (Kd.R_below HO_181001.out hb); have n3_ := mk_ (Kd.R_below HO_187001.out hb); have n4_ := mk_ (blk_below BK153.out hb); have n5_ := mk_ (blk_below BK154.out hb); have n6_ := mk_ (blk_below BK170.out hb); have n7_ := mk_ (blk_below BK175.out hb); have n8_ := mk_ (blk_below BK180.out hb); have n9_ := mk_ (blk_below BK186.out hb); have n10_ := mk_ (below_step (by repeat (first | (with_reducible first | exact HB.out | apply below_alloc | apply pw_below_drewN | apply below_drew1 | refine below_set ?_ GE153.out | refine below_set ?_ GE154.out | refine below_set ?_ GE170.out | refine below_set ?_ GE175.out | refine below_set ?_ GE180.out | refine below_set ?_ GE186.out) | exact HB.out)) hb); replace HO_171001 := n0_; replace HO_176001 := n1_; replace HO_181001 := n2_; replace HO_187001 := n3_; replace BK153 := n4_; replace BK154 := n5_; replace BK170 := n6_; replace BK175 := n7_; replace BK180 := n8_; replace BK186 := n9_; replace HB := n10_; clear n0_ n1_ n2_ n3_ n4_ n5_ n6_ n7_ n8_ n9_ n10_; (try clear hb); (try clear hb2); (try clear hk); (try clear hi)))
     replace HO_171001 := mk_ (Kd.R_drew HO_171001.out)
     replace HO_176001 := mk_ (Kd.R_drew HO_176001.out)
     replace HO_181001 := mk_ (Kd.R_drew HO_181001.out)
     replace HO_187001 := mk_ (Kd.R_drew HO_187001.out)
     replace BK153 := mk_ (blk_drew BK153.out)
     replace BK154 := mk_ (blk_drew BK154.out)
     replace BK170 := mk_ (blk_drew BK170.out)
     replace BK175 := mk_ (blk_drew BK175.out)
     replace BK180 := mk_ (blk_drew BK180.out)
     replace BK186 := mk_ (blk_drew BK186.out)
     replace HB := mk_ (below_drew1 HB.out)
     refine start_ (n := 11) (S := fun w' => w'.cell? ⟨gb153, 0, none⟩ = some (.int .i64 a0_0) ∧ w'.cell? ⟨gb153, 1, none⟩ = some (.slice A0_1 l0_1.length c0_1) ∧ w'.cell? ⟨gb154, 0, none⟩ = some (.int .i64 a1_0) ∧ w'.cell? ⟨gb154, 1, none⟩ = some (.slice A1_1 l1_1.length c1_1)) (ds := []) #[false, false, false, false, false, false, false, false, false, false, false] (by kernel_rfl) rfl rfl ⟨b4_ BK153.out 0 rfl, b4_ BK153.out 1 rfl, b4_ BK154.out 0 rfl, b4_ BK154.out 1 rfl⟩ (fun hHeld => ?_); refine with_tabW laws_FnExactNetJoin.tab31 laws_FnExactNetJoin.bits31 (fun HT_ HW_ => ?_)
     generalize w174.drew = w175 at HO_171001 HO_176001 HO_181001 HO_187001 BK153 BK154 BK170 BK175 BK180 BK186 HB hHeld ⊢
     refine take_ (i := 0) (N := some 95) (v := ?_) (a' := ?_) #[true, false, false, false, false, false, false, false, false, false, false] rfl rfl (take_ofW HT_.out HW_.out (by kernel_rfl)) (fun _ _ _ h => h) (Or.inl ⟨by rfl, ?_⟩) hHeld ?_ ?_
     rotate_left
     ·
      rintro w' ⟨s0, s1, s2, s3⟩
      go_simp
      with_reducible rfl
     rotate_left
     ·
      simp only [Act.put, List.setIfInBounds_toArray, List.set_cons_zero, List.set_cons_succ, i64_w, i32_w]
      rfl
     refine take_ (i := 2) (N := some 97) (v := ?_) (a' := ?_) #[true, false, true, false, false, false, false, false, false, false, false] rfl rfl (take_ofW HT_.out HW_.out (by kernel_rfl)) (fun _ _ _ h => h) (Or.inl ⟨by rfl, ?_⟩) hHeld ?_ ?_
     rotate_left
     ·
      rintro w' ⟨s0, s1, s2, s3⟩
      go_simp
      with_reducible rfl
     rotate_left
     ·
      simp only [Act.put, List.setIfInBounds_toArray, List.set_cons_zero, List.set_cons_succ, i64_w, i32_w]
      rfl
     refine join_ (σ := Value × Value × Value × Nat) 2 #[true, true, true, true, true, true, true, true, true, false, false] (fun s_ => [(96, .agg #[.int .i64 t206, s_.1]), (98, .agg #[.int .i64 t210, s_.2.1]), (99, .tuple #[.agg #[.int .i64 t214, s_.2.2.1], .bool t218]), (15, .pointer (some ⟨s_.2.2.2, 0, none⟩)), (94, .tuple #[.agg #[.int .i64 t214, s_.2.2.1], .bool t218]), (100, .agg #[.int .i64 t214, s_.2.2.1]), (101, .bool t218)]) (fun s_ w' => (w'.cell? ⟨gb153, 0, none⟩ = some (.int .i64 a0_0) ∧ w'.cell? ⟨gb153, 1, none⟩ = some (.slice A0_1 l0_1.length c0_1) ∧ w'.cell? ⟨gb154, 0, none⟩ = some (.int .i64 a1_0) ∧ w'.cell? ⟨gb154, 1, none⟩ = some (.slice A1_1 l1_1.length c1_1)) ∧ (Kd.R k55 55 w' w.heap.size (fun k_ => some k_ ≠ (s_.2.1 : Value).ownBlock ∧ some k_ ≠ (s_.2.2.1 : Value).ownBlock ∧ some k_ ≠ (.slice Ao42 t166.length co42 : Value).ownBlock ∧ some k_ ≠ (.slice Ao52 t199.length co52 : Value).ownBlock ∧ some k_ ≠ (.slice Ao62 t201.length co62 : Value).ownBlock ∧ some k_ ≠ (.slice Ao72 t182.length co72 : Value).ownBlock) s_.1 t207) ∧ (Kd.R k55 55 w' w.heap.size (fun k_ => some k_ ≠ (s_.1 : Value).ownBlock ∧ some k_ ≠ (s_.2.2.1 : Value).ownBlock ∧ some k_ ≠ (.slice Ao42 t166.length co42 : Value).ownBlock ∧ some k_ ≠ (.slice Ao52 t199.length co52 : Value).ownBlock ∧ some k_ ≠ (.slice Ao62 t201.length co62 : Value).ownBlock ∧ some k_ ≠ (.slice Ao72 t182.length co72 : Value).ownBlock) s_.2.1 t211) ∧ (Kd.R k55 55 w' w.heap.size (fun k_ => some k_ ≠ (s_.1 : Value).ownBlock ∧ some k_ ≠ (s_.2.1 : Value).ownBlock ∧ some k_ ≠ (.slice Ao42 t166.length co42 : Value).ownBlock ∧ some k_ ≠ (.slice Ao52 t199.length co52 : Value).ownBlock ∧ some k_ ≠ (.slice Ao62 t201.length co62 : Value).ownBlock ∧ some k_ ≠ (.slice Ao72 t182.length co72 : Value).ownBlock) s_.2.2.1 t215) ∧ (Kd.R k55 55 w' w.heap.size (fun k_ => some k_ ≠ (s_.1 : Value).ownBlock ∧ some k_ ≠ (s_.2.1 : Value).ownBlock ∧ some k_ ≠ (s_.2.2.1 : Value).ownBlock ∧ some k_ ≠ (.slice Ao52 t199.length co52 : Value).ownBlock ∧ some k_ ≠ (.slice Ao62 t201.length co62 : Value).ownBlock ∧ some k_ ≠ (.slice Ao72 t182.length co72 : Value).ownBlock) (.slice Ao42 t166.length co42) t166) ∧ (Kd.R k55 55 w' w.heap.size (fun k_ => some k_ ≠ (s_.1 : Value).ownBlock ∧ some k_ ≠ (s_.2.1 : Value).ownBlock ∧ some k_ ≠ (s_.2.2.1 : Value).ownBlock ∧ some k_ ≠ (.slice Ao42 t166.length co42 : Value).ownBlock ∧ some k_ ≠ (.slice Ao62 t201.length co62 : Value).ownBlock ∧ some k_ ≠ (.slice Ao72 t182.length co72 : Value).ownBlock) (.slice Ao52 t199.length co52) t199) ∧ (Kd.R k55 55 w' w.heap.size (fun k_ => some k_ ≠ (s_.1 : Value).ownBlock ∧ some k_ ≠ (s_.2.1 : Value).ownBlock ∧ some k_ ≠ (s_.2.2.1 : Value).ownBlock ∧ some k_ ≠ (.slice Ao42 t166.length co42 : Value).ownBlock ∧ some k_ ≠ (.slice Ao52 t199.length co52 : Value).ownBlock ∧ some k_ ≠ (.slice Ao72 t182.length co72 : Value).ownBlock) (.slice Ao62 t201.length co62) t201) ∧ (Kd.R k55 55 w' w.heap.size (fun k_ => some k_ ≠ (s_.1 : Value).ownBlock ∧ some k_ ≠ (s_.2.1 : Value).ownBlock ∧ some k_ ≠ (s_.2.2.1 : Value).ownBlock ∧ some k_ ≠ (.slice Ao42 t166.length co42 : Value).ownBlock ∧ some k_ ≠ (.slice Ao52 t199.length co52 : Value).ownBlock ∧ some k_ ≠ (.slice Ao62 t201.length co62 : Value).ownBlock) (.slice Ao72 t182.length co72) t204) ∧ (w'.heap[gb153]? = some (.cells #[.int .i64 a0_0, .slice A0_1 l0_1.length c0_1] 37 (0, 0))) ∧ (w'.heap[gb154]? = some (.cells #[.int .i64 a1_0, .slice A1_1 l1_1.length c1_1] 37 (0, 0))) ∧ (w'.heap[gb170]? = some (.cells #[.int .i64 t165, .slice Ao42 t166.length co42] 28 (0, 0))) ∧ (w'.heap[gb175]? = some (.cells #[.int .i64 t171, .slice Ao52 t199.length co52] 28 (0, 0))) ∧ (w'.heap[gb180]? = some (.cells #[.int .i64 t176, .slice Ao62 t201.length co62] 28 (0, 0))) ∧ (w'.heap[gb186]? = some (.cells #[.int .i64 t181, .slice Ao72 t182.length co72] 28 (0, 0))) ∧ (w'.heap[s_.2.2.2]? = some (.cells #[.int .i64 0, .slice none 0 0] 28 (0, 0))) ∧ (w.heap.size ≤ s_.2.2.2) ∧ (w.heap.size ≤ s_.2.2.2) ∧ (gb153 ≠ s_.2.2.2) ∧ (s_.2.2.2 ≠ gb153) ∧ (gb154 ≠ s_.2.2.2) ∧ (s_.2.2.2 ≠ gb154) ∧ (gb170 ≠ s_.2.2.2) ∧ (s_.2.2.2 ≠ gb170) ∧ (gb175 ≠ s_.2.2.2) ∧ (s_.2.2.2 ≠ gb175) ∧ (gb180 ≠ s_.2.2.2) ∧ (s_.2.2.2 ≠ gb180) ∧ (gb186 ≠ s_.2.2.2) ∧ (s_.2.2.2 ≠ gb186) ∧ (Below w.heap.size w w')) ?_ ?_
     rotate_left
     ·
      intro hCont
      refine two_ (i := 1) (j := 8) (Ni := some 96) (Nj := some 15) #[true, true, true, false, false, false, false, false, false, false, false] #[true, false, true, false, false, false, false, false, true, false, false] rfl rfl rfl rfl (two_of HT_.out (by kernel_rfl)) (by decide) (by decide) (fun K hK => ?_) (fun K hK => ?_)
      rotate_left
      ·
       skip
       refine box_step ?hg (N := 15) ?hd (cs := #[.int .i64 0, .slice none 0 0]) (t := 28) ?hr ?_; (case hd => rfl); (case hg => rfl); (case hr => first | (go_simp; done) | (go_simp; rfl))
       intro gb219 hg w176 hbox hb
       have BK219 := mk_ (hbox)
       have GW219 := mk_ ((by rw [hg]; exact (below_size HB.out) : w.heap.size ≤ gb219))
       have GE219 := mk_ ((by rw [hg]; exact (below_size HB.out) : w.heap.size ≤ gb219))
       have NB153_219 := mk_ ((by rw [hg]; exact Nat.ne_of_lt (blk_lt BK153.out) : gb153 ≠ gb219))
       have NB219_153 := mk_ ((by rw [hg]; exact Nat.ne_of_gt (blk_lt BK153.out) : gb219 ≠ gb153))
       have NB154_219 := mk_ ((by rw [hg]; exact Nat.ne_of_lt (blk_lt BK154.out) : gb154 ≠ gb219))
       have NB219_154 := mk_ ((by rw [hg]; exact Nat.ne_of_gt (blk_lt BK154.out) : gb219 ≠ gb154))
       have NB170_219 := mk_ ((by rw [hg]; exact Nat.ne_of_lt (blk_lt BK170.out) : gb170 ≠ gb219))
       have NB219_170 := mk_ ((by rw [hg]; exact Nat.ne_of_gt (blk_lt BK170.out) : gb219 ≠ gb170))
       have NB175_219 := mk_ ((by rw [hg]; exact Nat.ne_of_lt (blk_lt BK175.out) : gb175 ≠ gb219))
       have NB219_175 := mk_ ((by rw [hg]; exact Nat.ne_of_gt (blk_lt BK175.out) : gb219 ≠ gb175))
       have NB180_219 := mk_ ((by rw [hg]; exact Nat.ne_of_lt (blk_lt BK180.out) : gb180 ≠ gb219))
       have NB219_180 := mk_ ((by rw [hg]; exact Nat.ne_of_gt (blk_lt BK180.out) : gb219 ≠ gb180))
       have NB186_219 := mk_ ((by rw [hg]; exact Nat.ne_of_lt (blk_lt BK186.out) : gb186 ≠ gb219))
       have NB219_186 := mk_ ((by rw [hg]; exact Nat.ne_of_gt (blk_lt BK186.out) : gb219 ≠ gb186))
       replace HO_171001 := mk_ (Kd.R_below HO_171001.out hb)
       replace HO_176001 := mk_ (Kd.R_below HO_176001.out hb)
       replace HO_181001 := mk_ (Kd.R_below HO_181001.out hb)
       replace HO_187001 := mk_ (Kd.R_below HO_187001.out hb)
       replace BK153 := mk_ (blk_below BK153.out hb)
       replace BK154 := mk_ (blk_below BK154.out hb)
       replace BK170 := mk_ (blk_below BK170.out hb)
       replace BK175 := mk_ (blk_below BK175.out hb)
       replace BK180 := mk_ (blk_below BK180.out hb)
       replace BK186 := mk_ (blk_below BK186.out hb)
       replace HB := mk_ (below_step HB.out hb)
       clear hb hbox hg
       refine hK.out _ _ ⟨b4_ BK153.out 0 rfl, b4_ BK153.out 1 rfl, b4_ BK154.out 0 rfl, b4_ BK154.out 1 rfl⟩ (fun hHeld => ?_)
       clear hK K
       refine norm_ (a' := ?_) ?_ ?_
       rotate_left
       ·
        show Act.put _ (some 15) _ = _
        simp only [Act.put, List.setIfInBounds_toArray, List.set_cons_zero, List.set_cons_succ, i64_w, i32_w]
        rfl
       refine one_ (i := 1) (N := some 96) #[true, true, true, false, false, false, false, false, true, false, false] rfl rfl (one_of HT_.out (by kernel_rfl)) (by decide) (fun K hK => ?_)
       refine goes_ Try.func18 (by kernel_rfl) rfl #[.agg #[.int .i64 a0_0, .slice A0_1 l0_1.length c0_1]] (by rfl) rfl rfl (by (try simp only [List.map_toArray, List.map_cons, List.map_nil]); first | done | rfl) ?_
       with_reducible refine (laws_toNet.calls kj107 a0_0 _ _ l0_1 t206 t207 _ ?side1 ?side2 A162.out).mono ?_
       (case side1 => repeat (first | exact (Kd.C_below HR0_1.out HB.out) | (with_reducible refine Kd.C_alloc ?_ _) | (with_reducible refine Kd.C_drewN ?_ _) | (with_reducible refine Kd.C_drew ?_)))
       (case side2 => exact HC0_1.out)
       rintro e w177 ⟨v208, rfl, ho0, hb⟩
       refine ⟨_, rfl, ?_⟩
       have HO209 := mk_ (Kd.R_lower (Kd.R_new' (Kd.R_new' (Kd.R_new' (Kd.R_new' ho0 (Kd.R_lt (by (with_reducible repeat (first | apply Kd.R_alloc | apply Kd.R_drewN | apply Kd.R_drew)); exact HO_171001.out))) (Kd.R_lt (by (with_reducible repeat (first | apply Kd.R_alloc | apply Kd.R_drewN | apply Kd.R_drew)); exact HO_176001.out))) (Kd.R_lt (by (with_reducible repeat (first | apply Kd.R_alloc | apply Kd.R_drewN | apply Kd.R_drew)); exact HO_181001.out))) (Kd.R_lt (by (with_reducible repeat (first | apply Kd.R_alloc | apply Kd.R_drewN | apply Kd.R_drew)); exact HO_187001.out))) (below_size HB.out))
       replace HO_171001 := mk_ (Kd.R_elder' HO_171001.out (Kd.R_base ho0) hb)
       replace HO_176001 := mk_ (Kd.R_elder' HO_176001.out (Kd.R_base ho0) hb)
       replace HO_181001 := mk_ (Kd.R_elder' HO_181001.out (Kd.R_base ho0) hb)
       replace HO_187001 := mk_ (Kd.R_elder' HO_187001.out (Kd.R_base ho0) hb)
       replace BK153 := mk_ (blk_below BK153.out hb)
       replace BK154 := mk_ (blk_below BK154.out hb)
       replace BK170 := mk_ (blk_below BK170.out hb)
       replace BK175 := mk_ (blk_below BK175.out hb)
       replace BK180 := mk_ (blk_below BK180.out hb)
       replace BK186 := mk_ (blk_below BK186.out hb)
       replace BK219 := mk_ (blk_below BK219.out hb)
       replace HB := mk_ (below_step HB.out hb)
       (try clear hb)
       (try clear hb2)
       (try clear hk)
       (try clear hi)
       (try clear ho0)
       refine hK.out _ _ ⟨b4_ BK153.out 0 rfl, b4_ BK153.out 1 rfl, b4_ BK154.out 0 rfl, b4_ BK154.out 1 rfl⟩ (fun hHeld => ?_)
       clear hK K
       refine norm_ (a' := ?_) ?_ ?_
       rotate_left
       ·
        show Act.put _ (some 96) _ = _
        simp only [Act.put, List.setIfInBounds_toArray, List.set_cons_zero, List.set_cons_succ, i64_w, i32_w]
        rfl
       refine one_ (i := 3) (N := some 98) #[true, true, true, true, false, false, false, false, true, false, false] rfl rfl (one_of HT_.out (by kernel_rfl)) (by decide) (fun K hK => ?_)
       refine goes_ Try.func18 (by kernel_rfl) rfl #[.agg #[.int .i64 a1_0, .slice A1_1 l1_1.length c1_1]] (by rfl) rfl rfl (by (try simp only [List.map_toArray, List.map_cons, List.map_nil]); first | done | rfl) ?_
       with_reducible refine (laws_toNet.calls kj107 a1_0 _ _ l1_1 t210 t211 _ ?side1 ?side2 A163.out).mono ?_
       (case side1 => repeat (first | exact (Kd.C_below HR1_1.out HB.out) | (with_reducible refine Kd.C_alloc ?_ _) | (with_reducible refine Kd.C_drewN ?_ _) | (with_reducible refine Kd.C_drew ?_)))
       (case side2 => exact HC1_1.out)
       rintro e w178 ⟨v212, rfl, ho0, hb⟩
       refine ⟨_, rfl, ?_⟩
       have HO213 := mk_ (Kd.R_lower (Kd.R_new' (Kd.R_new' (Kd.R_new' (Kd.R_new' (Kd.R_new' ho0 (Kd.R_lt (by (with_reducible repeat (first | apply Kd.R_alloc | apply Kd.R_drewN | apply Kd.R_drew)); exact HO_171001.out))) (Kd.R_lt (by (with_reducible repeat (first | apply Kd.R_alloc | apply Kd.R_drewN | apply Kd.R_drew)); exact HO_176001.out))) (Kd.R_lt (by (with_reducible repeat (first | apply Kd.R_alloc | apply Kd.R_drewN | apply Kd.R_drew)); exact HO_181001.out))) (Kd.R_lt (by (with_reducible repeat (first | apply Kd.R_alloc | apply Kd.R_drewN | apply Kd.R_drew)); exact HO_187001.out))) (Kd.R_lt (by (with_reducible repeat (first | apply Kd.R_alloc | apply Kd.R_drewN | apply Kd.R_drew)); exact HO209.out))) (below_size HB.out))
       replace HO_171001 := mk_ (Kd.R_elder' HO_171001.out (Kd.R_base ho0) hb)
       replace HO_176001 := mk_ (Kd.R_elder' HO_176001.out (Kd.R_base ho0) hb)
       replace HO_181001 := mk_ (Kd.R_elder' HO_181001.out (Kd.R_base ho0) hb)
       replace HO_187001 := mk_ (Kd.R_elder' HO_187001.out (Kd.R_base ho0) hb)
       replace HO209 := mk_ (Kd.R_elder' HO209.out (Kd.R_base ho0) hb)
       replace BK153 := mk_ (blk_below BK153.out hb)
       replace BK154 := mk_ (blk_below BK154.out hb)
       replace BK170 := mk_ (blk_below BK170.out hb)
       replace BK175 := mk_ (blk_below BK175.out hb)
       replace BK180 := mk_ (blk_below BK180.out hb)
       replace BK186 := mk_ (blk_below BK186.out hb)
       replace BK219 := mk_ (blk_below BK219.out hb)
       replace HB := mk_ (below_step HB.out hb)
       (try clear hb)
       (try clear hb2)
       (try clear hk)
       (try clear hi)
       (try clear ho0)
       obtain ⟨Ao179, co179, eo179⟩ := Kd.R_slice HO209.out
       (first | subst eo179 | (injection eo179 with f1_ f2_ f3_; have f4_ := f1_.symm; have f5_ := f3_.symm; clear f1_ f2_ f3_; subst f4_; subst f5_))
       obtain ⟨Ao180, co180, eo180⟩ := Kd.R_slice HO213.out
       (first | subst eo180 | (injection eo180 with f1_ f2_ f3_; have f4_ := f1_.symm; have f5_ := f3_.symm; clear f1_ f2_ f3_; subst f4_; subst f5_))
       refine hK.out _ _ ⟨b4_ BK153.out 0 rfl, b4_ BK153.out 1 rfl, b4_ BK154.out 0 rfl, b4_ BK154.out 1 rfl⟩ (fun hHeld => ?_)
       clear hK K
       refine norm_ (a' := ?_) ?_ ?_
       rotate_left
       ·
        show Act.put _ (some 98) _ = _
        simp only [Act.put, List.setIfInBounds_toArray, List.set_cons_zero, List.set_cons_succ, i64_w, i32_w]
        rfl
       refine one_ (i := 4) (N := some 99) #[true, true, true, true, true, false, false, false, true, false, false] rfl rfl (one_of HT_.out (by kernel_rfl)) (by decide) (fun K hK => ?_)
       refine goes_ Try.func19 (by kernel_rfl) rfl #[.agg #[.int .i64 t206, .slice Ao179 t207.length co179], .agg #[.int .i64 t210, .slice Ao180 t211.length co180]] (by rfl) rfl rfl (by (try simp only [List.map_toArray, List.map_cons, List.map_nil]); first | done | rfl) ?_
       with_reducible refine (impl_NetJoin.calls kj107 t206 _ _ t207 t210 _ _ t211 t214 t215 t218 _ ?side1 ?side2 ?side3 ?side4 A164.out).mono ?_
       (case side1 => repeat (first | exact (Kd.R_reads' HO209.out).2.2 | (with_reducible refine Kd.C_alloc ?_ _) | (with_reducible refine Kd.C_drewN ?_ _) | (with_reducible refine Kd.C_drew ?_)))
       (case side2 => exact (Kd.R_reads' HO209.out).2.1)
       (case side3 => repeat (first | exact (Kd.R_reads' HO213.out).2.2 | (with_reducible refine Kd.C_alloc ?_ _) | (with_reducible refine Kd.C_drewN ?_ _) | (with_reducible refine Kd.C_drew ?_)))
       (case side4 => exact (Kd.R_reads' HO213.out).2.1)
       rintro e w181 ⟨v216, rfl, ho0, hb⟩
       refine ⟨_, rfl, ?_⟩
       have HO217 := mk_ (Kd.R_lower (Kd.R_new' (Kd.R_new' (Kd.R_new' (Kd.R_new' (Kd.R_new' (Kd.R_new' ho0 (Kd.R_lt (by (with_reducible repeat (first | apply Kd.R_alloc | apply Kd.R_drewN | apply Kd.R_drew)); exact HO_171001.out))) (Kd.R_lt (by (with_reducible repeat (first | apply Kd.R_alloc | apply Kd.R_drewN | apply Kd.R_drew)); exact HO_176001.out))) (Kd.R_lt (by (with_reducible repeat (first | apply Kd.R_alloc | apply Kd.R_drewN | apply Kd.R_drew)); exact HO_181001.out))) (Kd.R_lt (by (with_reducible repeat (first | apply Kd.R_alloc | apply Kd.R_drewN | apply Kd.R_drew)); exact HO_187001.out))) (Kd.R_lt (by (with_reducible repeat (first | apply Kd.R_alloc | apply Kd.R_drewN | apply Kd.R_drew)); exact HO209.out))) (Kd.R_lt (by (with_reducible repeat (first | apply Kd.R_alloc | apply Kd.R_drewN | apply Kd.R_drew)); exact HO213.out))) (below_size HB.out))
       replace HO_171001 := mk_ (Kd.R_elder' HO_171001.out (Kd.R_base ho0) hb)
       replace HO_176001 := mk_ (Kd.R_elder' HO_176001.out (Kd.R_base ho0) hb)
       replace HO_181001 := mk_ (Kd.R_elder' HO_181001.out (Kd.R_base ho0) hb)
       replace HO_187001 := mk_ (Kd.R_elder' HO_187001.out (Kd.R_base ho0) hb)
       replace HO209 := mk_ (Kd.R_elder' HO209.out (Kd.R_base ho0) hb)
       replace HO213 := mk_ (Kd.R_elder' HO213.out (Kd.R_base ho0) hb)
       replace BK153 := mk_ (blk_below BK153.out hb)
       replace BK154 := mk_ (blk_below BK154.out hb)
       replace BK170 := mk_ (blk_below BK170.out hb)
       replace BK175 := mk_ (blk_below BK175.out hb)
       replace BK180 := mk_ (blk_below BK180.out hb)
       replace BK186 := mk_ (blk_below BK186.out hb)
       replace BK219 := mk_ (blk_below BK219.out hb)
       replace HB := mk_ (below_step HB.out hb)
       (try clear hb)
       (try clear hb2)
       (try clear hk)
       (try clear hi)
       (try clear ho0)
       refine hK.out _ _ ⟨b4_ BK153.out 0 rfl, b4_ BK153.out 1 rfl, b4_ BK154.out 0 rfl, b4_ BK154.out 1 rfl⟩ (fun hHeld => ?_)
       clear hK K
       refine norm_ (a' := ?_) ?_ ?_
       rotate_left
       ·
        show Act.put _ (some 99) _ = _
        simp only [Act.put, List.setIfInBounds_toArray, List.set_cons_zero, List.set_cons_succ, i64_w, i32_w]
        rfl
       refine pure_ (i := 5) (N := some 94) (v := ?_) (a' := ?_) #[true, true, true, true, true, true, false, false, true, false, false] rfl rfl (any_of HT_.out (by kernel_rfl)) (fun _ _ _ h => h) (Or.inl ⟨by rfl, ?_⟩) ?_ ?_
       rotate_left
       ·
        intro w'
        go_simp
        with_reducible rfl
       rotate_left
       ·
        simp only [Act.put, List.setIfInBounds_toArray, List.set_cons_zero, List.set_cons_succ, i64_w, i32_w]
        rfl
       refine pure_ (i := 6) (N := some 100) (v := ?_) (a' := ?_) #[true, true, true, true, true, true, true, false, true, false, false] rfl rfl (any_of HT_.out (by kernel_rfl)) (fun _ _ _ h => h) (Or.inl ⟨by rfl, ?_⟩) ?_ ?_
       rotate_left
       ·
        intro w'
        go_simp
        with_reducible rfl
       rotate_left
       ·
        simp only [Act.put, List.setIfInBounds_toArray, List.set_cons_zero, List.set_cons_succ, i64_w, i32_w]
        rfl
       refine pure_ (i := 7) (N := some 101) (v := ?_) (a' := ?_) #[true, true, true, true, true, true, true, true, true, false, false] rfl rfl (any_of HT_.out (by kernel_rfl)) (fun _ _ _ h => h) (Or.inl ⟨by rfl, ?_⟩) ?_ ?_
       rotate_left
       ·
        intro w'
        go_simp
        with_reducible rfl
       rotate_left
       ·
        simp only [Act.put, List.setIfInBounds_toArray, List.set_cons_zero, List.set_cons_succ, i64_w, i32_w]
        rfl
       exact norm_ (by simp only [putAll, Act.put, List.setIfInBounds_toArray, List.set_cons_zero, List.set_cons_succ]) (hCont (.slice Ao179 t207.length co179, .slice Ao180 t211.length co180, v216, gb219) _ ⟨hHeld, (by (with_reducible repeat (first | apply Kd.R_alloc | apply Kd.R_drewN | apply Kd.R_drew)); exact Kd.R_mono HO209.out (fun _ hk => ⟨hk.1.2, ⟨hk.2, ⟨hk.1.1.1.1.1.2, ⟨hk.1.1.1.1.2, ⟨hk.1.1.1.2, hk.1.1.2⟩⟩⟩⟩⟩)), (by (with_reducible repeat (first | apply Kd.R_alloc | apply Kd.R_drewN | apply Kd.R_drew)); exact Kd.R_mono HO213.out (fun _ hk => ⟨hk.1.2, ⟨hk.2, ⟨hk.1.1.1.1.1.2, ⟨hk.1.1.1.1.2, ⟨hk.1.1.1.2, hk.1.1.2⟩⟩⟩⟩⟩)), (by (with_reducible repeat (first | apply Kd.R_alloc | apply Kd.R_drewN | apply Kd.R_drew)); exact Kd.R_mono HO217.out (fun _ hk => ⟨hk.1.2, ⟨hk.2, ⟨hk.1.1.1.1.1.2, ⟨hk.1.1.1.1.2, ⟨hk.1.1.1.2, hk.1.1.2⟩⟩⟩⟩⟩)), (by (with_reducible repeat (first | apply Kd.R_alloc | apply Kd.R_drewN | apply Kd.R_drew)); exact Kd.R_mono HO_171001.out (fun _ hk => ⟨hk.1.1.2, ⟨hk.1.2, ⟨hk.2, ⟨hk.1.1.1.1, ⟨hk.1.1.1.2.1, hk.1.1.1.2.2⟩⟩⟩⟩⟩)), (by (with_reducible repeat (first | apply Kd.R_alloc | apply Kd.R_drewN | apply Kd.R_drew)); exact Kd.R_mono HO_176001.out (fun _ hk => ⟨hk.1.1.2, ⟨hk.1.2, ⟨hk.2, ⟨hk.1.1.1.1, ⟨hk.1.1.1.2.1, hk.1.1.1.2.2⟩⟩⟩⟩⟩)), (by (with_reducible repeat (first | apply Kd.R_alloc | apply Kd.R_drewN | apply Kd.R_drew)); exact Kd.R_mono HO_181001.out (fun _ hk => ⟨hk.1.1.2, ⟨hk.1.2, ⟨hk.2, ⟨hk.1.1.1.1, ⟨hk.1.1.1.2.1, hk.1.1.1.2.2⟩⟩⟩⟩⟩)), (by (with_reducible repeat (first | apply Kd.R_alloc | apply Kd.R_drewN | apply Kd.R_drew)); exact Kd.R_mono HO_187001.out (fun _ hk => ⟨hk.1.1.2, ⟨hk.1.2, ⟨hk.2, ⟨hk.1.1.1.1, ⟨hk.1.1.1.2.1, hk.1.1.1.2.2⟩⟩⟩⟩⟩)), BK153.out, BK154.out, BK170.out, BK175.out, BK180.out, BK186.out, BK219.out, GW219.out, GE219.out, NB153_219.out, NB219_153.out, NB154_219.out, NB219_154.out, NB170_219.out, NB219_170.out, NB175_219.out, NB219_175.out, NB180_219.out, NB219_180.out, NB186_219.out, NB219_186.out, HB.out⟩)
      skip
      refine goes_ Try.func18 (by kernel_rfl) rfl #[.agg #[.int .i64 a0_0, .slice A0_1 l0_1.length c0_1]] (by rfl) rfl rfl (by (try simp only [List.map_toArray, List.map_cons, List.map_nil]); first | done | rfl) ?_
      with_reducible refine (laws_toNet.calls kj107 a0_0 _ _ l0_1 t206 t207 _ ?side1 ?side2 A162.out).mono ?_
      (case side1 => repeat (first | exact (Kd.C_below HR0_1.out HB.out) | (with_reducible refine Kd.C_alloc ?_ _) | (with_reducible refine Kd.C_drewN ?_ _) | (with_reducible refine Kd.C_drew ?_)))
      (case side2 => exact HC0_1.out)
      rintro e w176 ⟨v208, rfl, ho0, hb⟩
      refine ⟨_, rfl, ?_⟩
      have HO209 := mk_ (Kd.R_lower (Kd.R_new' (Kd.R_new' (Kd.R_new' (Kd.R_new' ho0 (Kd.R_lt (by (with_reducible repeat (first | apply Kd.R_alloc | apply Kd.R_drewN | apply Kd.R_drew)); exact HO_171001.out))) (Kd.R_lt (by (with_reducible repeat (first | apply Kd.R_alloc | apply Kd.R_drewN | apply Kd.R_drew)); exact HO_176001.out))) (Kd.R_lt (by (with_reducible repeat (first | apply Kd.R_alloc | apply Kd.R_drewN | apply Kd.R_drew)); exact HO_181001.out))) (Kd.R_lt (by (with_reducible repeat (first | apply Kd.R_alloc | apply Kd.R_drewN | apply Kd.R_drew)); exact HO_187001.out))) (below_size HB.out))
      replace HO_171001 := mk_ (Kd.R_elder' HO_171001.out (Kd.R_base ho0) hb)
      replace HO_176001 := mk_ (Kd.R_elder' HO_176001.out (Kd.R_base ho0) hb)
      replace HO_181001 := mk_ (Kd.R_elder' HO_181001.out (Kd.R_base ho0) hb)
      replace HO_187001 := mk_ (Kd.R_elder' HO_187001.out (Kd.R_base ho0) hb)
      replace BK153 := mk_ (blk_below BK153.out hb)
      replace BK154 := mk_ (blk_below BK154.out hb)
      replace BK170 := mk_ (blk_below BK170.out hb)
      replace BK175 := mk_ (blk_below BK175.out hb)
      replace BK180 := mk_ (blk_below BK180.out hb)
      replace BK186 := mk_ (blk_below BK186.out hb)
      replace HB := mk_ (below_step HB.out hb)
      (try clear hb)
      (try clear hb2)
      (try clear hk)
      (try clear hi)
      (try clear ho0)
      refine hK.out _ _ ⟨b4_ BK153.out 0 rfl, b4_ BK153.out 1 rfl, b4_ BK154.out 0 rfl, b4_ BK154.out 1 rfl⟩ (fun hHeld => ?_)
      clear hK K
      refine norm_ (a' := ?_) ?_ ?_
      rotate_left
      ·
       show Act.put _ (some 96) _ = _
       simp only [Act.put, List.setIfInBounds_toArray, List.set_cons_zero, List.set_cons_succ, i64_w, i32_w]
       rfl
      refine two_ (i := 3) (j := 8) (Ni := some 98) (Nj := some 15) #[true, true, true, true, false, false, false, false, false, false, false] #[true, true, true, false, false, false, false, false, true, false, false] rfl rfl rfl rfl (two_of HT_.out (by kernel_rfl)) (by decide) (by decide) (fun K hK => ?_) (fun K hK => ?_)
      rotate_left
      ·
       skip
       refine box_step ?hg (N := 15) ?hd (cs := #[.int .i64 0, .slice none 0 0]) (t := 28) ?hr ?_; (case hd => rfl); (case hg => rfl); (case hr => first | (go_simp; done) | (go_simp; rfl))
       intro gb219 hg w177 hbox hb
       have BK219 := mk_ (hbox)
       have GW219 := mk_ ((by rw [hg]; exact (below_size HB.out) : w.heap.size ≤ gb219))
       have GE219 := mk_ ((by rw [hg]; exact (below_size HB.out) : w.heap.size ≤ gb219))
       have NB153_219 := mk_ ((by rw [hg]; exact Nat.ne_of_lt (blk_lt BK153.out) : gb153 ≠ gb219))
       have NB219_153 := mk_ ((by rw [hg]; exact Nat.ne_of_gt (blk_lt BK153.out) : gb219 ≠ gb153))
       have NB154_219 := mk_ ((by rw [hg]; exact Nat.ne_of_lt (blk_lt BK154.out) : gb154 ≠ gb219))
       have NB219_154 := mk_ ((by rw [hg]; exact Nat.ne_of_gt (blk_lt BK154.out) : gb219 ≠ gb154))
       have NB170_219 := mk_ ((by rw [hg]; exact Nat.ne_of_lt (blk_lt BK170.out) : gb170 ≠ gb219))
       have NB219_170 := mk_ ((by rw [hg]; exact Nat.ne_of_gt (blk_lt BK170.out) : gb219 ≠ gb170))
       have NB175_219 := mk_ ((by rw [hg]; exact Nat.ne_of_lt (blk_lt BK175.out) : gb175 ≠ gb219))
       have NB219_175 := mk_ ((by rw [hg]; exact Nat.ne_of_gt (blk_lt BK175.out) : gb219 ≠ gb175))
       have NB180_219 := mk_ ((by rw [hg]; exact Nat.ne_of_lt (blk_lt BK180.out) : gb180 ≠ gb219))
       have NB219_180 := mk_ ((by rw [hg]; exact Nat.ne_of_gt (blk_lt BK180.out) : gb219 ≠ gb180))
       have NB186_219 := mk_ ((by rw [hg]; exact Nat.ne_of_lt (blk_lt BK186.out) : gb186 ≠ gb219))
       have NB219_186 := mk_ ((by rw [hg]; exact Nat.ne_of_gt (blk_lt BK186.out) : gb219 ≠ gb186))
       replace HO_171001 := mk_ (Kd.R_below HO_171001.out hb)
       replace HO_176001 := mk_ (Kd.R_below HO_176001.out hb)
       replace HO_181001 := mk_ (Kd.R_below HO_181001.out hb)
       replace HO_187001 := mk_ (Kd.R_below HO_187001.out hb)
       replace HO209 := mk_ (Kd.R_below HO209.out hb)
       replace BK153 := mk_ (blk_below BK153.out hb)
       replace BK154 := mk_ (blk_below BK154.out hb)
       replace BK170 := mk_ (blk_below BK170.out hb)
       replace BK175 := mk_ (blk_below BK175.out hb)
       replace BK180 := mk_ (blk_below BK180.out hb)
       replace BK186 := mk_ (blk_below BK186.out hb)
       replace HB := mk_ (below_step HB.out hb)
       clear hb hbox hg
       refine hK.out _ _ ⟨b4_ BK153.out 0 rfl, b4_ BK153.out 1 rfl, b4_ BK154.out 0 rfl, b4_ BK154.out 1 rfl⟩ (fun hHeld => ?_)
       clear hK K
       refine norm_ (a' := ?_) ?_ ?_
       rotate_left
       ·
        show Act.put _ (some 15) _ = _
        simp only [Act.put, List.setIfInBounds_toArray, List.set_cons_zero, List.set_cons_succ, i64_w, i32_w]
        rfl
       refine one_ (i := 3) (N := some 98) #[true, true, true, true, false, false, false, false, true, false, false] rfl rfl (one_of HT_.out (by kernel_rfl)) (by decide) (fun K hK => ?_)
       refine goes_ Try.func18 (by kernel_rfl) rfl #[.agg #[.int .i64 a1_0, .slice A1_1 l1_1.length c1_1]] (by rfl) rfl rfl (by (try simp only [List.map_toArray, List.map_cons, List.map_nil]); first | done | rfl) ?_
       with_reducible refine (laws_toNet.calls kj107 a1_0 _ _ l1_1 t210 t211 _ ?side1 ?side2 A163.out).mono ?_
       (case side1 => repeat (first | exact (Kd.C_below HR1_1.out HB.out) | (with_reducible refine Kd.C_alloc ?_ _) | (with_reducible refine Kd.C_drewN ?_ _) | (with_reducible refine Kd.C_drew ?_)))
       (case side2 => exact HC1_1.out)
       rintro e w178 ⟨v212, rfl, ho0, hb⟩
       refine ⟨_, rfl, ?_⟩
       have HO213 := mk_ (Kd.R_lower (Kd.R_new' (Kd.R_new' (Kd.R_new' (Kd.R_new' (Kd.R_new' ho0 (Kd.R_lt (by (with_reducible repeat (first | apply Kd.R_alloc | apply Kd.R_drewN | apply Kd.R_drew)); exact HO_171001.out))) (Kd.R_lt (by (with_reducible repeat (first | apply Kd.R_alloc | apply Kd.R_drewN | apply Kd.R_drew)); exact HO_176001.out))) (Kd.R_lt (by (with_reducible repeat (first | apply Kd.R_alloc | apply Kd.R_drewN | apply Kd.R_drew)); exact HO_181001.out))) (Kd.R_lt (by (with_reducible repeat (first | apply Kd.R_alloc | apply Kd.R_drewN | apply Kd.R_drew)); exact HO_187001.out))) (Kd.R_lt (by (with_reducible repeat (first | apply Kd.R_alloc | apply Kd.R_drewN | apply Kd.R_drew)); exact HO209.out))) (below_size HB.out))
       replace HO_171001 := mk_ (Kd.R_elder' HO_171001.out (Kd.R_base ho0) hb)
       replace HO_176001 := mk_ (Kd.R_elder' HO_176001.out (Kd.R_base ho0) hb)
       replace HO_181001 := mk_ (Kd.R_elder' HO_181001.out (Kd.R_base ho0) hb)
       replace HO_187001 := mk_ (Kd.R_elder' HO_187001.out (Kd.R_base ho0) hb)
       replace HO209 := mk_ (Kd.R_elder' HO209.out (Kd.R_base ho0) hb)
       replace BK153 := mk_ (blk_below BK153.out hb)
       replace BK154 := mk_ (blk_below BK154.out hb)
       replace BK170 := mk_ (blk_below BK170.out hb)
       replace BK175 := mk_ (blk_below BK175.out hb)
       replace BK180 := mk_ (blk_below BK180.out hb)
       replace BK186 := mk_ (blk_below BK186.out hb)
       replace BK219 := mk_ (blk_below BK219.out hb)
       replace HB := mk_ (below_step HB.out hb)
       (try clear hb)
       (try clear hb2)
       (try clear hk)
       (try clear hi)
       (try clear ho0)
       obtain ⟨Ao179, co179, eo179⟩ := Kd.R_slice HO209.out
       (first | subst eo179 | (injection eo179 with f1_ f2_ f3_; have f4_ := f1_.symm; have f5_ := f3_.symm; clear f1_ f2_ f3_; subst f4_; subst f5_))
       obtain ⟨Ao180, co180, eo180⟩ := Kd.R_slice HO213.out
       (first | subst eo180 | (injection eo180 with f1_ f2_ f3_; have f4_ := f1_.symm; have f5_ := f3_.symm; clear f1_ f2_ f3_; subst f4_; subst f5_))
       refine hK.out _ _ ⟨b4_ BK153.out 0 rfl, b4_ BK153.out 1 rfl, b4_ BK154.out 0 rfl, b4_ BK154.out 1 rfl⟩ (fun hHeld => ?_)
       clear hK K
       refine norm_ (a' := ?_) ?_ ?_
       rotate_left
       ·
        show Act.put _ (some 98) _ = _
        simp only [Act.put, List.setIfInBounds_toArray, List.set_cons_zero, List.set_cons_succ, i64_w, i32_w]
        rfl
       refine one_ (i := 4) (N := some 99) #[true, true, true, true, true, false, false, false, true, false, false] rfl rfl (one_of HT_.out (by kernel_rfl)) (by decide) (fun K hK => ?_)
       refine goes_ Try.func19 (by kernel_rfl) rfl #[.agg #[.int .i64 t206, .slice Ao179 t207.length co179], .agg #[.int .i64 t210, .slice Ao180 t211.length co180]] (by rfl) rfl rfl (by (try simp only [List.map_toArray, List.map_cons, List.map_nil]); first | done | rfl) ?_
       with_reducible refine (impl_NetJoin.calls kj107 t206 _ _ t207 t210 _ _ t211 t214 t215 t218 _ ?side1 ?side2 ?side3 ?side4 A164.out).mono ?_
       (case side1 => repeat (first | exact (Kd.R_reads' HO209.out).2.2 | (with_reducible refine Kd.C_alloc ?_ _) | (with_reducible refine Kd.C_drewN ?_ _) | (with_reducible refine Kd.C_drew ?_)))
       (case side2 => exact (Kd.R_reads' HO209.out).2.1)
       (case side3 => repeat (first | exact (Kd.R_reads' HO213.out).2.2 | (with_reducible refine Kd.C_alloc ?_ _) | (with_reducible refine Kd.C_drewN ?_ _) | (with_reducible refine Kd.C_drew ?_)))
       (case side4 => exact (Kd.R_reads' HO213.out).2.1)
       rintro e w181 ⟨v216, rfl, ho0, hb⟩
       refine ⟨_, rfl, ?_⟩
       have HO217 := mk_ (Kd.R_lower (Kd.R_new' (Kd.R_new' (Kd.R_new' (Kd.R_new' (Kd.R_new' (Kd.R_new' ho0 (Kd.R_lt (by (with_reducible repeat (first | apply Kd.R_alloc | apply Kd.R_drewN | apply Kd.R_drew)); exact HO_171001.out))) (Kd.R_lt (by (with_reducible repeat (first | apply Kd.R_alloc | apply Kd.R_drewN | apply Kd.R_drew)); exact HO_176001.out))) (Kd.R_lt (by (with_reducible repeat (first | apply Kd.R_alloc | apply Kd.R_drewN | apply Kd.R_drew)); exact HO_181001.out))) (Kd.R_lt (by (with_reducible repeat (first | apply Kd.R_alloc | apply Kd.R_drewN | apply Kd.R_drew)); exact HO_187001.out))) (Kd.R_lt (by (with_reducible repeat (first | apply Kd.R_alloc | apply Kd.R_drewN | apply Kd.R_drew)); exact HO209.out))) (Kd.R_lt (by (with_reducible repeat (first | apply Kd.R_alloc | apply Kd.R_drewN | apply Kd.R_drew)); exact HO213.out))) (below_size HB.out))
       replace HO_171001 := mk_ (Kd.R_elder' HO_171001.out (Kd.R_base ho0) hb)
       replace HO_176001 := mk_ (Kd.R_elder' HO_176001.out (Kd.R_base ho0) hb)
       replace HO_181001 := mk_ (Kd.R_elder' HO_181001.out (Kd.R_base ho0) hb)
       replace HO_187001 := mk_ (Kd.R_elder' HO_187001.out (Kd.R_base ho0) hb)
       replace HO209 := mk_ (Kd.R_elder' HO209.out (Kd.R_base ho0) hb)
       replace HO213 := mk_ (Kd.R_elder' HO213.out (Kd.R_base ho0) hb)
       replace BK153 := mk_ (blk_below BK153.out hb)
       replace BK154 := mk_ (blk_below BK154.out hb)
       replace BK170 := mk_ (blk_below BK170.out hb)
       replace BK175 := mk_ (blk_below BK175.out hb)
       replace BK180 := mk_ (blk_below BK180.out hb)
       replace BK186 := mk_ (blk_below BK186.out hb)
       replace BK219 := mk_ (blk_below BK219.out hb)
       replace HB := mk_ (below_step HB.out hb)
       (try clear hb)
       (try clear hb2)
       (try clear hk)
       (try clear hi)
       (try clear ho0)
       refine hK.out _ _ ⟨b4_ BK153.out 0 rfl, b4_ BK153.out 1 rfl, b4_ BK154.out 0 rfl, b4_ BK154.out 1 rfl⟩ (fun hHeld => ?_)
       clear hK K
       refine norm_ (a' := ?_) ?_ ?_
       rotate_left
       ·
        show Act.put _ (some 99) _ = _
        simp only [Act.put, List.setIfInBounds_toArray, List.set_cons_zero, List.set_cons_succ, i64_w, i32_w]
        rfl
       refine pure_ (i := 5) (N := some 94) (v := ?_) (a' := ?_) #[true, true, true, true, true, true, false, false, true, false, false] rfl rfl (any_of HT_.out (by kernel_rfl)) (fun _ _ _ h => h) (Or.inl ⟨by rfl, ?_⟩) ?_ ?_
       rotate_left
       ·
        intro w'
        go_simp
        with_reducible rfl
       rotate_left
       ·
        simp only [Act.put, List.setIfInBounds_toArray, List.set_cons_zero, List.set_cons_succ, i64_w, i32_w]
        rfl
       refine pure_ (i := 6) (N := some 100) (v := ?_) (a' := ?_) #[true, true, true, true, true, true, true, false, true, false, false] rfl rfl (any_of HT_.out (by kernel_rfl)) (fun _ _ _ h => h) (Or.inl ⟨by rfl, ?_⟩) ?_ ?_
       rotate_left
       ·
        intro w'
        go_simp
        with_reducible rfl
       rotate_left
       ·
        simp only [Act.put, List.setIfInBounds_toArray, List.set_cons_zero, List.set_cons_succ, i64_w, i32_w]
        rfl
       refine pure_ (i := 7) (N := some 101) (v := ?_) (a' := ?_) #[true, true, true, true, true, true, true, true, true, false, false] rfl rfl (any_of HT_.out (by kernel_rfl)) (fun _ _ _ h => h) (Or.inl ⟨by rfl, ?_⟩) ?_ ?_
       rotate_left
       ·
        intro w'
        go_simp
        with_reducible rfl
       rotate_left
       ·
        simp only [Act.put, List.setIfInBounds_toArray, List.set_cons_zero, List.set_cons_succ, i64_w, i32_w]
        rfl
       exact norm_ (by simp only [putAll, Act.put, List.setIfInBounds_toArray, List.set_cons_zero, List.set_cons_succ]) (hCont (.slice Ao179 t207.length co179, .slice Ao180 t211.length co180, v216, gb219) _ ⟨hHeld, (by (with_reducible repeat (first | apply Kd.R_alloc | apply Kd.R_drewN | apply Kd.R_drew)); exact Kd.R_mono HO209.out (fun _ hk => ⟨hk.1.2, ⟨hk.2, ⟨hk.1.1.1.1.1.2, ⟨hk.1.1.1.1.2, ⟨hk.1.1.1.2, hk.1.1.2⟩⟩⟩⟩⟩)), (by (with_reducible repeat (first | apply Kd.R_alloc | apply Kd.R_drewN | apply Kd.R_drew)); exact Kd.R_mono HO213.out (fun _ hk => ⟨hk.1.2, ⟨hk.2, ⟨hk.1.1.1.1.1.2, ⟨hk.1.1.1.1.2, ⟨hk.1.1.1.2, hk.1.1.2⟩⟩⟩⟩⟩)), (by (with_reducible repeat (first | apply Kd.R_alloc | apply Kd.R_drewN | apply Kd.R_drew)); exact Kd.R_mono HO217.out (fun _ hk => ⟨hk.1.2, ⟨hk.2, ⟨hk.1.1.1.1.1.2, ⟨hk.1.1.1.1.2, ⟨hk.1.1.1.2, hk.1.1.2⟩⟩⟩⟩⟩)), (by (with_reducible repeat (first | apply Kd.R_alloc | apply Kd.R_drewN | apply Kd.R_drew)); exact Kd.R_mono HO_171001.out (fun _ hk => ⟨hk.1.1.2, ⟨hk.1.2, ⟨hk.2, ⟨hk.1.1.1.1, ⟨hk.1.1.1.2.1, hk.1.1.1.2.2⟩⟩⟩⟩⟩)), (by (with_reducible repeat (first | apply Kd.R_alloc | apply Kd.R_drewN | apply Kd.R_drew)); exact Kd.R_mono HO_176001.out (fun _ hk => ⟨hk.1.1.2, ⟨hk.1.2, ⟨hk.2, ⟨hk.1.1.1.1, ⟨hk.1.1.1.2.1, hk.1.1.1.2.2⟩⟩⟩⟩⟩)), (by (with_reducible repeat (first | apply Kd.R_alloc | apply Kd.R_drewN | apply Kd.R_drew)); exact Kd.R_mono HO_181001.out (fun _ hk => ⟨hk.1.1.2, ⟨hk.1.2, ⟨hk.2, ⟨hk.1.1.1.1, ⟨hk.1.1.1.2.1, hk.1.1.1.2.2⟩⟩⟩⟩⟩)), (by (with_reducible repeat (first | apply Kd.R_alloc | apply Kd.R_drewN | apply Kd.R_drew)); exact Kd.R_mono HO_187001.out (fun _ hk => ⟨hk.1.1.2, ⟨hk.1.2, ⟨hk.2, ⟨hk.1.1.1.1, ⟨hk.1.1.1.2.1, hk.1.1.1.2.2⟩⟩⟩⟩⟩)), BK153.out, BK154.out, BK170.out, BK175.out, BK180.out, BK186.out, BK219.out, GW219.out, GE219.out, NB153_219.out, NB219_153.out, NB154_219.out, NB219_154.out, NB170_219.out, NB219_170.out, NB175_219.out, NB219_175.out, NB180_219.out, NB219_180.out, NB186_219.out, NB219_186.out, HB.out⟩)
      skip
      refine goes_ Try.func18 (by kernel_rfl) rfl #[.agg #[.int .i64 a1_0, .slice A1_1 l1_1.length c1_1]] (by rfl) rfl rfl (by (try simp only [List.map_toArray, List.map_cons, List.map_nil]); first | done | rfl) ?_
      with_reducible refine (laws_toNet.calls kj107 a1_0 _ _ l1_1 t210 t211 _ ?side1 ?side2 A163.out).mono ?_
      (case side1 => repeat (first | exact (Kd.C_below HR1_1.out HB.out) | (with_reducible refine Kd.C_alloc ?_ _) | (with_reducible refine Kd.C_drewN ?_ _) | (with_reducible refine Kd.C_drew ?_)))
      (case side2 => exact HC1_1.out)
      rintro e w177 ⟨v212, rfl, ho0, hb⟩
      refine ⟨_, rfl, ?_⟩
      have HO213 := mk_ (Kd.R_lower (Kd.R_new' (Kd.R_new' (Kd.R_new' (Kd.R_new' (Kd.R_new' ho0 (Kd.R_lt (by (with_reducible repeat (first | apply Kd.R_alloc | apply Kd.R_drewN | apply Kd.R_drew)); exact HO_171001.out))) (Kd.R_lt (by (with_reducible repeat (first | apply Kd.R_alloc | apply Kd.R_drewN | apply Kd.R_drew)); exact HO_176001.out))) (Kd.R_lt (by (with_reducible repeat (first | apply Kd.R_alloc | apply Kd.R_drewN | apply Kd.R_drew)); exact HO_181001.out))) (Kd.R_lt (by (with_reducible repeat (first | apply Kd.R_alloc | apply Kd.R_drewN | apply Kd.R_drew)); exact HO_187001.out))) (Kd.R_lt (by (with_reducible repeat (first | apply Kd.R_alloc | apply Kd.R_drewN | apply Kd.R_drew)); exact HO209.out))) (below_size HB.out))
      replace HO_171001 := mk_ (Kd.R_elder' HO_171001.out (Kd.R_base ho0) hb)
      replace HO_176001 := mk_ (Kd.R_elder' HO_176001.out (Kd.R_base ho0) hb)
      replace HO_181001 := mk_ (Kd.R_elder' HO_181001.out (Kd.R_base ho0) hb)
      replace HO_187001 := mk_ (Kd.R_elder' HO_187001.out (Kd.R_base ho0) hb)
      replace HO209 := mk_ (Kd.R_elder' HO209.out (Kd.R_base ho0) hb)
      replace BK153 := mk_ (blk_below BK153.out hb)
      replace BK154 := mk_ (blk_below BK154.out hb)
      replace BK170 := mk_ (blk_below BK170.out hb)
      replace BK175 := mk_ (blk_below BK175.out hb)
      replace BK180 := mk_ (blk_below BK180.out hb)
      replace BK186 := mk_ (blk_below BK186.out hb)
      replace HB := mk_ (below_step HB.out hb)
      (try clear hb)
      (try clear hb2)
      (try clear hk)
      (try clear hi)
      (try clear ho0)
      obtain ⟨Ao178, co178, eo178⟩ := Kd.R_slice HO209.out
      (first | subst eo178 | (injection eo178 with f1_ f2_ f3_; have f4_ := f1_.symm; have f5_ := f3_.symm; clear f1_ f2_ f3_; subst f4_; subst f5_))
      obtain ⟨Ao179, co179, eo179⟩ := Kd.R_slice HO213.out
      (first | subst eo179 | (injection eo179 with f1_ f2_ f3_; have f4_ := f1_.symm; have f5_ := f3_.symm; clear f1_ f2_ f3_; subst f4_; subst f5_))
      refine hK.out _ _ ⟨b4_ BK153.out 0 rfl, b4_ BK153.out 1 rfl, b4_ BK154.out 0 rfl, b4_ BK154.out 1 rfl⟩ (fun hHeld => ?_)
      clear hK K
      refine norm_ (a' := ?_) ?_ ?_
      rotate_left
      ·
       show Act.put _ (some 98) _ = _
       simp only [Act.put, List.setIfInBounds_toArray, List.set_cons_zero, List.set_cons_succ, i64_w, i32_w]
       rfl
      refine two_ (i := 4) (j := 8) (Ni := some 99) (Nj := some 15) #[true, true, true, true, true, false, false, false, false, false, false] #[true, true, true, true, false, false, false, false, true, false, false] rfl rfl rfl rfl (two_of HT_.out (by kernel_rfl)) (by decide) (by decide) (fun K hK => ?_) (fun K hK => ?_)
      ·
       skip
       refine goes_ Try.func19 (by kernel_rfl) rfl #[.agg #[.int .i64 t206, .slice Ao178 t207.length co178], .agg #[.int .i64 t210, .slice Ao179 t211.length co179]] (by rfl) rfl rfl (by (try simp only [List.map_toArray, List.map_cons, List.map_nil]); first | done | rfl) ?_
       with_reducible refine (impl_NetJoin.calls kj107 t206 _ _ t207 t210 _ _ t211 t214 t215 t218 _ ?side1 ?side2 ?side3 ?side4 A164.out).mono ?_
       (case side1 => repeat (first | exact (Kd.R_reads' HO209.out).2.2 | (with_reducible refine Kd.C_alloc ?_ _) | (with_reducible refine Kd.C_drewN ?_ _) | (with_reducible refine Kd.C_drew ?_)))
       (case side2 => exact (Kd.R_reads' HO209.out).2.1)
       (case side3 => repeat (first | exact (Kd.R_reads' HO213.out).2.2 | (with_reducible refine Kd.C_alloc ?_ _) | (with_reducible refine Kd.C_drewN ?_ _) | (with_reducible refine Kd.C_drew ?_)))
       (case side4 => exact (Kd.R_reads' HO213.out).2.1)
       rintro e w180 ⟨v216, rfl, ho0, hb⟩
       refine ⟨_, rfl, ?_⟩
       have HO217 := mk_ (Kd.R_lower (Kd.R_new' (Kd.R_new' (Kd.R_new' (Kd.R_new' (Kd.R_new' (Kd.R_new' ho0 (Kd.R_lt (by (with_reducible repeat (first | apply Kd.R_alloc | apply Kd.R_drewN | apply Kd.R_drew)); exact HO_171001.out))) (Kd.R_lt (by (with_reducible repeat (first | apply Kd.R_alloc | apply Kd.R_drewN | apply Kd.R_drew)); exact HO_176001.out))) (Kd.R_lt (by (with_reducible repeat (first | apply Kd.R_alloc | apply Kd.R_drewN | apply Kd.R_drew)); exact HO_181001.out))) (Kd.R_lt (by (with_reducible repeat (first | apply Kd.R_alloc | apply Kd.R_drewN | apply Kd.R_drew)); exact HO_187001.out))) (Kd.R_lt (by (with_reducible repeat (first | apply Kd.R_alloc | apply Kd.R_drewN | apply Kd.R_drew)); exact HO209.out))) (Kd.R_lt (by (with_reducible repeat (first | apply Kd.R_alloc | apply Kd.R_drewN | apply Kd.R_drew)); exact HO213.out))) (below_size HB.out))
       replace HO_171001 := mk_ (Kd.R_elder' HO_171001.out (Kd.R_base ho0) hb)
       replace HO_176001 := mk_ (Kd.R_elder' HO_176001.out (Kd.R_base ho0) hb)
       replace HO_181001 := mk_ (Kd.R_elder' HO_181001.out (Kd.R_base ho0) hb)
       replace HO_187001 := mk_ (Kd.R_elder' HO_187001.out (Kd.R_base ho0) hb)
       replace HO209 := mk_ (Kd.R_elder' HO209.out (Kd.R_base ho0) hb)
       replace HO213 := mk_ (Kd.R_elder' HO213.out (Kd.R_base ho0) hb)
       replace BK153 := mk_ (blk_below BK153.out hb)
       replace BK154 := mk_ (blk_below BK154.out hb)
       replace BK170 := mk_ (blk_below BK170.out hb)
       replace BK175 := mk_ (blk_below BK175.out hb)
       replace BK180 := mk_ (blk_below BK180.out hb)
       replace BK186 := mk_ (blk_below BK186.out hb)
       replace HB := mk_ (below_step HB.out hb)
       (try clear hb)
       (try clear hb2)
       (try clear hk)
       (try clear hi)
       (try clear ho0)
       refine hK.out _ _ ⟨b4_ BK153.out 0 rfl, b4_ BK153.out 1 rfl, b4_ BK154.out 0 rfl, b4_ BK154.out 1 rfl⟩ (fun hHeld => ?_)
       clear hK K
       refine norm_ (a' := ?_) ?_ ?_
       rotate_left
       ·
        show Act.put _ (some 99) _ = _
        simp only [Act.put, List.setIfInBounds_toArray, List.set_cons_zero, List.set_cons_succ, i64_w, i32_w]
        rfl
       refine pure_ (i := 5) (N := some 94) (v := ?_) (a' := ?_) #[true, true, true, true, true, true, false, false, false, false, false] rfl rfl (any_of HT_.out (by kernel_rfl)) (fun _ _ _ h => h) (Or.inl ⟨by rfl, ?_⟩) ?_ ?_
       rotate_left
       ·
        intro w'
        go_simp
        with_reducible rfl
       rotate_left
       ·
        simp only [Act.put, List.setIfInBounds_toArray, List.set_cons_zero, List.set_cons_succ, i64_w, i32_w]
        rfl
       refine pure_ (i := 6) (N := some 100) (v := ?_) (a' := ?_) #[true, true, true, true, true, true, true, false, false, false, false] rfl rfl (any_of HT_.out (by kernel_rfl)) (fun _ _ _ h => h) (Or.inl ⟨by rfl, ?_⟩) ?_ ?_
       rotate_left
       ·
        intro w'
        go_simp
        with_reducible rfl
       rotate_left
       ·
        simp only [Act.put, List.setIfInBounds_toArray, List.set_cons_zero, List.set_cons_succ, i64_w, i32_w]
        rfl
       refine pure_ (i := 7) (N := some 101) (v := ?_) (a' := ?_) #[true, true, true, true, true, true, true, true, false, false, false] rfl rfl (any_of HT_.out (by kernel_rfl)) (fun _ _ _ h => h) (Or.inl ⟨by rfl, ?_⟩) ?_ ?_
       rotate_left
       ·
        intro w'
        go_simp
        with_reducible rfl
       rotate_left
       ·
        simp only [Act.put, List.setIfInBounds_toArray, List.set_cons_zero, List.set_cons_succ, i64_w, i32_w]
        rfl
       refine one_ (i := 8) (N := some 15) #[true, true, true, true, true, true, true, true, true, false, false] rfl rfl (one_of HT_.out (by kernel_rfl)) (by decide) (fun K hK => ?_)
       refine box_step ?hg (N := 15) ?hd (cs := #[.int .i64 0, .slice none 0 0]) (t := 28) ?hr ?_; (case hd => rfl); (case hg => rfl); (case hr => first | (go_simp; done) | (go_simp; rfl))
       intro gb219 hg w181 hbox hb
       have BK219 := mk_ (hbox)
       have GW219 := mk_ ((by rw [hg]; exact (below_size HB.out) : w.heap.size ≤ gb219))
       have GE219 := mk_ ((by rw [hg]; exact (below_size HB.out) : w.heap.size ≤ gb219))
       have NB153_219 := mk_ ((by rw [hg]; exact Nat.ne_of_lt (blk_lt BK153.out) : gb153 ≠ gb219))
       have NB219_153 := mk_ ((by rw [hg]; exact Nat.ne_of_gt (blk_lt BK153.out) : gb219 ≠ gb153))
       have NB154_219 := mk_ ((by rw [hg]; exact Nat.ne_of_lt (blk_lt BK154.out) : gb154 ≠ gb219))
       have NB219_154 := mk_ ((by rw [hg]; exact Nat.ne_of_gt (blk_lt BK154.out) : gb219 ≠ gb154))
       have NB170_219 := mk_ ((by rw [hg]; exact Nat.ne_of_lt (blk_lt BK170.out) : gb170 ≠ gb219))
       have NB219_170 := mk_ ((by rw [hg]; exact Nat.ne_of_gt (blk_lt BK170.out) : gb219 ≠ gb170))
       have NB175_219 := mk_ ((by rw [hg]; exact Nat.ne_of_lt (blk_lt BK175.out) : gb175 ≠ gb219))
       have NB219_175 := mk_ ((by rw [hg]; exact Nat.ne_of_gt (blk_lt BK175.out) : gb219 ≠ gb175))
       have NB180_219 := mk_ ((by rw [hg]; exact Nat.ne_of_lt (blk_lt BK180.out) : gb180 ≠ gb219))
       have NB219_180 := mk_ ((by rw [hg]; exact Nat.ne_of_gt (blk_lt BK180.out) : gb219 ≠ gb180))
       have NB186_219 := mk_ ((by rw [hg]; exact Nat.ne_of_lt (blk_lt BK186.out) : gb186 ≠ gb219))
       have NB219_186 := mk_ ((by rw [hg]; exact Nat.ne_of_gt (blk_lt BK186.out) : gb219 ≠ gb186))
       replace HO_171001 := mk_ (Kd.R_below HO_171001.out hb)
       replace HO_176001 := mk_ (Kd.R_below HO_176001.out hb)
       replace HO_181001 := mk_ (Kd.R_below HO_181001.out hb)
       replace HO_187001 := mk_ (Kd.R_below HO_187001.out hb)
       replace HO209 := mk_ (Kd.R_below HO209.out hb)
       replace HO213 := mk_ (Kd.R_below HO213.out hb)
       replace HO217 := mk_ (Kd.R_below HO217.out hb)
       replace BK153 := mk_ (blk_below BK153.out hb)
       replace BK154 := mk_ (blk_below BK154.out hb)
       replace BK170 := mk_ (blk_below BK170.out hb)
       replace BK175 := mk_ (blk_below BK175.out hb)
       replace BK180 := mk_ (blk_below BK180.out hb)
       replace BK186 := mk_ (blk_below BK186.out hb)
       replace HB := mk_ (below_step HB.out hb)
       clear hb hbox hg
       refine hK.out _ _ ⟨b4_ BK153.out 0 rfl, b4_ BK153.out 1 rfl, b4_ BK154.out 0 rfl, b4_ BK154.out 1 rfl⟩ (fun hHeld => ?_)
       clear hK K
       refine norm_ (a' := ?_) ?_ ?_
       rotate_left
       ·
        show Act.put _ (some 15) _ = _
        simp only [Act.put, List.setIfInBounds_toArray, List.set_cons_zero, List.set_cons_succ, i64_w, i32_w]
        rfl
       exact norm_ (by simp only [putAll, Act.put, List.setIfInBounds_toArray, List.set_cons_zero, List.set_cons_succ]) (hCont (.slice Ao178 t207.length co178, .slice Ao179 t211.length co179, v216, gb219) _ ⟨hHeld, (by (with_reducible repeat (first | apply Kd.R_alloc | apply Kd.R_drewN | apply Kd.R_drew)); exact Kd.R_mono HO209.out (fun _ hk => ⟨hk.1.2, ⟨hk.2, ⟨hk.1.1.1.1.1.2, ⟨hk.1.1.1.1.2, ⟨hk.1.1.1.2, hk.1.1.2⟩⟩⟩⟩⟩)), (by (with_reducible repeat (first | apply Kd.R_alloc | apply Kd.R_drewN | apply Kd.R_drew)); exact Kd.R_mono HO213.out (fun _ hk => ⟨hk.1.2, ⟨hk.2, ⟨hk.1.1.1.1.1.2, ⟨hk.1.1.1.1.2, ⟨hk.1.1.1.2, hk.1.1.2⟩⟩⟩⟩⟩)), (by (with_reducible repeat (first | apply Kd.R_alloc | apply Kd.R_drewN | apply Kd.R_drew)); exact Kd.R_mono HO217.out (fun _ hk => ⟨hk.1.2, ⟨hk.2, ⟨hk.1.1.1.1.1.2, ⟨hk.1.1.1.1.2, ⟨hk.1.1.1.2, hk.1.1.2⟩⟩⟩⟩⟩)), (by (with_reducible repeat (first | apply Kd.R_alloc | apply Kd.R_drewN | apply Kd.R_drew)); exact Kd.R_mono HO_171001.out (fun _ hk => ⟨hk.1.1.2, ⟨hk.1.2, ⟨hk.2, ⟨hk.1.1.1.1, ⟨hk.1.1.1.2.1, hk.1.1.1.2.2⟩⟩⟩⟩⟩)), (by (with_reducible repeat (first | apply Kd.R_alloc | apply Kd.R_drewN | apply Kd.R_drew)); exact Kd.R_mono HO_176001.out (fun _ hk => ⟨hk.1.1.2, ⟨hk.1.2, ⟨hk.2, ⟨hk.1.1.1.1, ⟨hk.1.1.1.2.1, hk.1.1.1.2.2⟩⟩⟩⟩⟩)), (by (with_reducible repeat (first | apply Kd.R_alloc | apply Kd.R_drewN | apply Kd.R_drew)); exact Kd.R_mono HO_181001.out (fun _ hk => ⟨hk.1.1.2, ⟨hk.1.2, ⟨hk.2, ⟨hk.1.1.1.1, ⟨hk.1.1.1.2.1, hk.1.1.1.2.2⟩⟩⟩⟩⟩)), (by (with_reducible repeat (first | apply Kd.R_alloc | apply Kd.R_drewN | apply Kd.R_drew)); exact Kd.R_mono HO_187001.out (fun _ hk => ⟨hk.1.1.2, ⟨hk.1.2, ⟨hk.2, ⟨hk.1.1.1.1, ⟨hk.1.1.1.2.1, hk.1.1.1.2.2⟩⟩⟩⟩⟩)), BK153.out, BK154.out, BK170.out, BK175.out, BK180.out, BK186.out, BK219.out, GW219.out, GE219.out, NB153_219.out, NB219_153.out, NB154_219.out, NB219_154.out, NB170_219.out, NB219_170.out, NB175_219.out, NB219_175.out, NB180_219.out, NB219_180.out, NB186_219.out, NB219_186.out, HB.out⟩)
      skip
      refine box_step ?hg (N := 15) ?hd (cs := #[.int .i64 0, .slice none 0 0]) (t := 28) ?hr ?_; (case hd => rfl); (case hg => rfl); (case hr => first | (go_simp; done) | (go_simp; rfl))
      intro gb219 hg w178 hbox hb
      have BK219 := mk_ (hbox)
      have GW219 := mk_ ((by rw [hg]; exact (below_size HB.out) : w.heap.size ≤ gb219))
      have GE219 := mk_ ((by rw [hg]; exact (below_size HB.out) : w.heap.size ≤ gb219))
      have NB153_219 := mk_ ((by rw [hg]; exact Nat.ne_of_lt (blk_lt BK153.out) : gb153 ≠ gb219))
      have NB219_153 := mk_ ((by rw [hg]; exact Nat.ne_of_gt (blk_lt BK153.out) : gb219 ≠ gb153))
      have NB154_219 := mk_ ((by rw [hg]; exact Nat.ne_of_lt (blk_lt BK154.out) : gb154 ≠ gb219))
      have NB219_154 := mk_ ((by rw [hg]; exact Nat.ne_of_gt (blk_lt BK154.out) : gb219 ≠ gb154))
      have NB170_219 := mk_ ((by rw [hg]; exact Nat.ne_of_lt (blk_lt BK170.out) : gb170 ≠ gb219))
      have NB219_170 := mk_ ((by rw [hg]; exact Nat.ne_of_gt (blk_lt BK170.out) : gb219 ≠ gb170))
      have NB175_219 := mk_ ((by rw [hg]; exact Nat.ne_of_lt (blk_lt BK175.out) : gb175 ≠ gb219))
      have NB219_175 := mk_ ((by rw [hg]; exact Nat.ne_of_gt (blk_lt BK175.out) : gb219 ≠ gb175))
      have NB180_219 := mk_ ((by rw [hg]; exact Nat.ne_of_lt (blk_lt BK180.out) : gb180 ≠ gb219))
      have NB219_180 := mk_ ((by rw [hg]; exact Nat.ne_of_gt (blk_lt BK180.out) : gb219 ≠ gb180))
      have NB186_219 := mk_ ((by rw [hg]; exact Nat.ne_of_lt (blk_lt BK186.out) : gb186 ≠ gb219))
      have NB219_186 := mk_ ((by rw [hg]; exact Nat.ne_of_gt (blk_lt BK186.out) : gb219 ≠ gb186))
      replace HO_171001 := mk_ (Kd.R_below HO_171001.out hb)
      replace HO_176001 := mk_ (Kd.R_below HO_176001.out hb)
      replace HO_181001 := mk_ (Kd.R_below HO_181001.out hb)
      replace HO_187001 := mk_ (Kd.R_below HO_187001.out hb)
      replace HO209 := mk_ (Kd.R_below HO209.out hb)
      replace HO213 := mk_ (Kd.R_below HO213.out hb)
      replace BK153 := mk_ (blk_below BK153.out hb)
      replace BK154 := mk_ (blk_below BK154.out hb)
      replace BK170 := mk_ (blk_below BK170.out hb)
      replace BK175 := mk_ (blk_below BK175.out hb)
      replace BK180 := mk_ (blk_below BK180.out hb)
      replace BK186 := mk_ (blk_below BK186.out hb)
      replace HB := mk_ (below_step HB.out hb)
      clear hb hbox hg
      obtain ⟨Ao179, co179, eo179⟩ := Kd.R_slice HO209.out
      (first | subst eo179 | (injection eo179 with f1_ f2_ f3_; have f4_ := f1_.symm; have f5_ := f3_.symm; clear f1_ f2_ f3_; subst f4_; subst f5_))
      obtain ⟨Ao180, co180, eo180⟩ := Kd.R_slice HO213.out
      (first | subst eo180 | (injection eo180 with f1_ f2_ f3_; have f4_ := f1_.symm; have f5_ := f3_.symm; clear f1_ f2_ f3_; subst f4_; subst f5_))
      refine hK.out _ _ ⟨b4_ BK153.out 0 rfl, b4_ BK153.out 1 rfl, b4_ BK154.out 0 rfl, b4_ BK154.out 1 rfl⟩ (fun hHeld => ?_)
      clear hK K
      refine norm_ (a' := ?_) ?_ ?_
      rotate_left
      ·
       show Act.put _ (some 15) _ = _
       simp only [Act.put, List.setIfInBounds_toArray, List.set_cons_zero, List.set_cons_succ, i64_w, i32_w]
       rfl
      refine one_ (i := 4) (N := some 99) #[true, true, true, true, true, false, false, false, true, false, false] rfl rfl (one_of HT_.out (by kernel_rfl)) (by decide) (fun K hK => ?_)
      refine goes_ Try.func19 (by kernel_rfl) rfl #[.agg #[.int .i64 t206, .slice Ao179 t207.length co179], .agg #[.int .i64 t210, .slice Ao180 t211.length co180]] (by rfl) rfl rfl (by (try simp only [List.map_toArray, List.map_cons, List.map_nil]); first | done | rfl) ?_
      with_reducible refine (impl_NetJoin.calls kj107 t206 _ _ t207 t210 _ _ t211 t214 t215 t218 _ ?side1 ?side2 ?side3 ?side4 A164.out).mono ?_
      (case side1 => repeat (first | exact (Kd.R_reads' HO209.out).2.2 | (with_reducible refine Kd.C_alloc ?_ _) | (with_reducible refine Kd.C_drewN ?_ _) | (with_reducible refine Kd.C_drew ?_)))
      (case side2 => exact (Kd.R_reads' HO209.out).2.1)
      (case side3 => repeat (first | exact (Kd.R_reads' HO213.out).2.2 | (with_reducible refine Kd.C_alloc ?_ _) | (with_reducible refine Kd.C_drewN ?_ _) | (with_reducible refine Kd.C_drew ?_)))
      (case side4 => exact (Kd.R_reads' HO213.out).2.1)
      rintro e w181 ⟨v216, rfl, ho0, hb⟩
      refine ⟨_, rfl, ?_⟩
      have HO217 := mk_ (Kd.R_lower (Kd.R_new' (Kd.R_new' (Kd.R_new' (Kd.R_new' (Kd.R_new' (Kd.R_new' ho0 (Kd.R_lt (by (with_reducible repeat (first | apply Kd.R_alloc | apply Kd.R_drewN | apply Kd.R_drew)); exact HO_171001.out))) (Kd.R_lt (by (with_reducible repeat (first | apply Kd.R_alloc | apply Kd.R_drewN | apply Kd.R_drew)); exact HO_176001.out))) (Kd.R_lt (by (with_reducible repeat (first | apply Kd.R_alloc | apply Kd.R_drewN | apply Kd.R_drew)); exact HO_181001.out))) (Kd.R_lt (by (with_reducible repeat (first | apply Kd.R_alloc | apply Kd.R_drewN | apply Kd.R_drew)); exact HO_187001.out))) (Kd.R_lt (by (with_reducible repeat (first | apply Kd.R_alloc | apply Kd.R_drewN | apply Kd.R_drew)); exact HO209.out))) (Kd.R_lt (by (with_reducible repeat (first | apply Kd.R_alloc | apply Kd.R_drewN | apply Kd.R_drew)); exact HO213.out))) (below_size HB.out))
      replace HO_171001 := mk_ (Kd.R_elder' HO_171001.out (Kd.R_base ho0) hb)
      replace HO_176001 := mk_ (Kd.R_elder' HO_176001.out (Kd.R_base ho0) hb)
      replace HO_181001 := mk_ (Kd.R_elder' HO_181001.out (Kd.R_base ho0) hb)
      replace HO_187001 := mk_ (Kd.R_elder' HO_187001.out (Kd.R_base ho0) hb)
      replace HO209 := mk_ (Kd.R_elder' HO209.out (Kd.R_base ho0) hb)
      replace HO213 := mk_ (Kd.R_elder' HO213.out (Kd.R_base ho0) hb)
      replace BK153 := mk_ (blk_below BK153.out hb)
      replace BK154 := mk_ (blk_below BK154.out hb)
      replace BK170 := mk_ (blk_below BK170.out hb)
      replace BK175 := mk_ (blk_below BK175.out hb)
      replace BK180 := mk_ (blk_below BK180.out hb)
      replace BK186 := mk_ (blk_below BK186.out hb)
      replace BK219 := mk_ (blk_below BK219.out hb)
      replace HB := mk_ (below_step HB.out hb)
      (try clear hb)
      (try clear hb2)
      (try clear hk)
      (try clear hi)
      (try clear ho0)
      refine hK.out _ _ ⟨b4_ BK153.out 0 rfl, b4_ BK153.out 1 rfl, b4_ BK154.out 0 rfl, b4_ BK154.out 1 rfl⟩ (fun hHeld => ?_)
      clear hK K
      refine norm_ (a' := ?_) ?_ ?_
      rotate_left
      ·
       show Act.put _ (some 99) _ = _
       simp only [Act.put, List.setIfInBounds_toArray, List.set_cons_zero, List.set_cons_succ, i64_w, i32_w]
       rfl
      refine pure_ (i := 5) (N := some 94) (v := ?_) (a' := ?_) #[true, true, true, true, true, true, false, false, true, false, false] rfl rfl (any_of HT_.out (by kernel_rfl)) (fun _ _ _ h => h) (Or.inl ⟨by rfl, ?_⟩) ?_ ?_
      rotate_left
      ·
       intro w'
       go_simp
       with_reducible rfl
      rotate_left
      ·
       simp only [Act.put, List.setIfInBounds_toArray, List.set_cons_zero, List.set_cons_succ, i64_w, i32_w]
       rfl
      refine pure_ (i := 6) (N := some 100) (v := ?_) (a' := ?_) #[true, true, true, true, true, true, true, false, true, false, false] rfl rfl (any_of HT_.out (by kernel_rfl)) (fun _ _ _ h => h) (Or.inl ⟨by rfl, ?_⟩) ?_ ?_
      rotate_left
      ·
       intro w'
       go_simp
       with_reducible rfl
      rotate_left
      ·
       simp only [Act.put, List.setIfInBounds_toArray, List.set_cons_zero, List.set_cons_succ, i64_w, i32_w]
       rfl
      refine pure_ (i := 7) (N := some 101) (v := ?_) (a' := ?_) #[true, true, true, true, true, true, true, true, true, false, false] rfl rfl (any_of HT_.out (by kernel_rfl)) (fun _ _ _ h => h) (Or.inl ⟨by rfl, ?_⟩) ?_ ?_
      rotate_left
      ·
       intro w'
       go_simp
       with_reducible rfl
      rotate_left
      ·
       simp only [Act.put, List.setIfInBounds_toArray, List.set_cons_zero, List.set_cons_succ, i64_w, i32_w]
       rfl
      exact norm_ (by simp only [putAll, Act.put, List.setIfInBounds_toArray, List.set_cons_zero, List.set_cons_succ]) (hCont (.slice Ao179 t207.length co179, .slice Ao180 t211.length co180, v216, gb219) _ ⟨hHeld, (by (with_reducible repeat (first | apply Kd.R_alloc | apply Kd.R_drewN | apply Kd.R_drew)); exact Kd.R_mono HO209.out (fun _ hk => ⟨hk.1.2, ⟨hk.2, ⟨hk.1.1.1.1.1.2, ⟨hk.1.1.1.1.2, ⟨hk.1.1.1.2, hk.1.1.2⟩⟩⟩⟩⟩)), (by (with_reducible repeat (first | apply Kd.R_alloc | apply Kd.R_drewN | apply Kd.R_drew)); exact Kd.R_mono HO213.out (fun _ hk => ⟨hk.1.2, ⟨hk.2, ⟨hk.1.1.1.1.1.2, ⟨hk.1.1.1.1.2, ⟨hk.1.1.1.2, hk.1.1.2⟩⟩⟩⟩⟩)), (by (with_reducible repeat (first | apply Kd.R_alloc | apply Kd.R_drewN | apply Kd.R_drew)); exact Kd.R_mono HO217.out (fun _ hk => ⟨hk.1.2, ⟨hk.2, ⟨hk.1.1.1.1.1.2, ⟨hk.1.1.1.1.2, ⟨hk.1.1.1.2, hk.1.1.2⟩⟩⟩⟩⟩)), (by (with_reducible repeat (first | apply Kd.R_alloc | apply Kd.R_drewN | apply Kd.R_drew)); exact Kd.R_mono HO_171001.out (fun _ hk => ⟨hk.1.1.2, ⟨hk.1.2, ⟨hk.2, ⟨hk.1.1.1.1, ⟨hk.1.1.1.2.1, hk.1.1.1.2.2⟩⟩⟩⟩⟩)), (by (with_reducible repeat (first | apply Kd.R_alloc | apply Kd.R_drewN | apply Kd.R_drew)); exact Kd.R_mono HO_176001.out (fun _ hk => ⟨hk.1.1.2, ⟨hk.1.2, ⟨hk.2, ⟨hk.1.1.1.1, ⟨hk.1.1.1.2.1, hk.1.1.1.2.2⟩⟩⟩⟩⟩)), (by (with_reducible repeat (first | apply Kd.R_alloc | apply Kd.R_drewN | apply Kd.R_drew)); exact Kd.R_mono HO_181001.out (fun _ hk => ⟨hk.1.1.2, ⟨hk.1.2, ⟨hk.2, ⟨hk.1.1.1.1, ⟨hk.1.1.1.2.1, hk.1.1.1.2.2⟩⟩⟩⟩⟩)), (by (with_reducible repeat (first | apply Kd.R_alloc | apply Kd.R_drewN | apply Kd.R_drew)); exact Kd.R_mono HO_187001.out (fun _ hk => ⟨hk.1.1.2, ⟨hk.1.2, ⟨hk.2, ⟨hk.1.1.1.1, ⟨hk.1.1.1.2.1, hk.1.1.1.2.2⟩⟩⟩⟩⟩)), BK153.out, BK154.out, BK170.out, BK175.out, BK180.out, BK186.out, BK219.out, GW219.out, GE219.out, NB153_219.out, NB219_153.out, NB154_219.out, NB219_154.out, NB170_219.out, NB219_170.out, NB175_219.out, NB219_175.out, NB180_219.out, NB219_180.out, NB186_219.out, NB219_186.out, HB.out⟩)
     rintro ⟨v208, v212, v216, gb219⟩ w182 ⟨hS_, h0_, h1_, h2_, h3_, h4_, h5_, h6_, h7_, h8_, h9_, h10_, h11_, h12_, h13_, h14_, h15_, h16_, h17_, h18_, h19_, h20_, h21_, h22_, h23_, h24_, h25_, h26_, h27_, h28_⟩
     have HO209 := mk_ h0_
     have HO213 := mk_ h1_
     have HO217 := mk_ h2_
     have BK219 := mk_ h13_
     have GW219 := mk_ h14_
     have GE219 := mk_ h15_
     have NB153_219 := mk_ h16_
     have NB219_153 := mk_ h17_
     have NB154_219 := mk_ h18_
     have NB219_154 := mk_ h19_
     have NB170_219 := mk_ h20_
     have NB219_170 := mk_ h21_
     have NB175_219 := mk_ h22_
     have NB219_175 := mk_ h23_
     have NB180_219 := mk_ h24_
     have NB219_180 := mk_ h25_
     have NB186_219 := mk_ h26_
     have NB219_186 := mk_ h27_
     replace HO_171001 := mk_ h3_
     replace HO_176001 := mk_ h4_
     replace HO_181001 := mk_ h5_
     replace HO_187001 := mk_ h6_
     replace BK153 := mk_ h7_
     replace BK154 := mk_ h8_
     replace BK170 := mk_ h9_
     replace BK175 := mk_ h10_
     replace BK180 := mk_ h11_
     replace BK186 := mk_ h12_
     replace HB := mk_ h28_
     clear h0_ h1_ h2_ h3_ h4_ h5_ h6_ h7_ h8_ h9_ h10_ h11_ h12_ h13_ h14_ h15_ h16_ h17_ h18_ h19_ h20_ h21_ h22_ h23_ h24_ h25_ h26_ h27_ h28_
     have hHeld : w182.cell? ⟨gb153, 0, none⟩ = some (.int .i64 a0_0) ∧ w182.cell? ⟨gb153, 1, none⟩ = some (.slice A0_1 l0_1.length c0_1) ∧ w182.cell? ⟨gb154, 0, none⟩ = some (.int .i64 a1_0) ∧ w182.cell? ⟨gb154, 1, none⟩ = some (.slice A1_1 l1_1.length c1_1) := hS_
     obtain ⟨Ao184, co184, eo184⟩ := Kd.R_slice HO217.out
     (first | subst eo184 | (injection eo184 with f1_ f2_ f3_; have f4_ := f1_.symm; have f5_ := f3_.symm; clear f1_ f2_ f3_; subst f4_; subst f5_))
     refine norm_ (a' := ?_) ?_ ?_
     rotate_left
     ·
      simp only [putAll, Act.put, List.setIfInBounds_toArray, List.set_cons_zero, List.set_cons_succ]
      rfl
     refine one_ (i := 9) (N := none) #[true, true, true, true, true, true, true, true, true, true, false] rfl rfl (one_of HT_.out (by kernel_rfl)) (by decide) (fun K hK => ?_)
     have hs183 : w182.cell? ⟨gb219, 0, none⟩ = some (.int .i64 0) := b4_ BK219.out 0 rfl
     have hfs183 := blk_frozen BK219.out 0
     have hns183_0 := NB153_219.out
     have hns183_1 := NB154_219.out
     have hns183_2 := NB170_219.out
     have hns183_3 := NB175_219.out
     have hns183_4 := NB180_219.out
     have hns183_5 := NB186_219.out
     have hms183_0 := NB219_153.out
     have hms183_1 := NB219_154.out
     have hms183_2 := NB219_170.out
     have hms183_3 := NB219_175.out
     have hms183_4 := NB219_180.out
     have hms183_5 := NB219_186.out
     have hs185 : w182.cell? ⟨gb219, 1, none⟩ = some (.slice none 0 0) := b4_ BK219.out 1 rfl
     have hfs185 := blk_frozen BK219.out 1
     have hns185_0 := NB153_219.out
     have hns185_1 := NB154_219.out
     have hns185_2 := NB170_219.out
     have hns185_3 := NB175_219.out
     have hns185_4 := NB180_219.out
     have hns185_5 := NB186_219.out
     have hms185_0 := NB219_153.out
     have hms185_1 := NB219_154.out
     have hms185_2 := NB219_170.out
     have hms185_3 := NB219_175.out
     have hms185_4 := NB219_180.out
     have hms185_5 := NB219_186.out
     refine skip_ (w1 := ?_) (by rfl) rfl ?_ ?_
     rotate_left
     ·
      go_simp
      rfl
     refine hK.out _ _ ⟨((cell_far (p := ⟨gb219, _, none⟩) NB153_219.out _).trans (((cell_far (p := ⟨gb219, _, none⟩) NB153_219.out _).trans (hHeld.1)))), ((cell_far (p := ⟨gb219, _, none⟩) NB153_219.out _).trans (((cell_far (p := ⟨gb219, _, none⟩) NB153_219.out _).trans (hHeld.2.1)))), ((cell_far (p := ⟨gb219, _, none⟩) NB154_219.out _).trans (((cell_far (p := ⟨gb219, _, none⟩) NB154_219.out _).trans (hHeld.2.2.1)))), ((cell_far (p := ⟨gb219, _, none⟩) NB154_219.out _).trans (((cell_far (p := ⟨gb219, _, none⟩) NB154_219.out _).trans (hHeld.2.2.2))))⟩ (fun hHeld => ?_)
     clear hK K
     refine pure_ (i := 10) (N := some 16) (v := ?_) (a' := ?_) #[true, true, true, true, true, true, true, true, true, true, true] rfl rfl (any_of HT_.out (by kernel_rfl)) (fun _ _ _ h => h) (Or.inl ⟨by rfl, ?_⟩) ?_ ?_
     rotate_left
     ·
      intro w'
      go_simp
      with_reducible rfl
     rotate_left
     ·
      simp only [Act.put, List.setIfInBounds_toArray, List.set_cons_zero, List.set_cons_succ, i64_w, i32_w]
      rfl
     refine done_ (done_of HT_.out (by kernel_rfl)) ?_
     go_upto_region 32 with (fail)
     go_cut [110] (fun v110 wc => ∃ (kq : Nat) (x110_164 : Bool), v110 = .bool x110_164 ∧ Aside0 (laws_FnExactNetJoin.j2 kq t203 x110_164 t181 t204 = some r) ∧ Aside0 (kq ≤ kj107) ∧ Aside0 (Kd.R k55 55 wc w.heap.size (fun k_ => some k_ ≠ ((.slice Ao52 t199.length co52) : Value).ownBlock ∧ some k_ ≠ ((.slice Ao62 t201.length co62) : Value).ownBlock ∧ some k_ ≠ ((.slice Ao72 t182.length co72) : Value).ownBlock ∧ some k_ ≠ ((.slice Ao184 t215.length co184) : Value).ownBlock) (.slice Ao42 t166.length co42) t166) ∧ Aside0 (Kd.R k55 55 wc w.heap.size (fun k_ => some k_ ≠ ((.slice Ao42 t166.length co42) : Value).ownBlock ∧ some k_ ≠ ((.slice Ao62 t201.length co62) : Value).ownBlock ∧ some k_ ≠ ((.slice Ao72 t182.length co72) : Value).ownBlock ∧ some k_ ≠ ((.slice Ao184 t215.length co184) : Value).ownBlock) (.slice Ao52 t199.length co52) t199) ∧ Aside0 (Kd.R k55 55 wc w.heap.size (fun k_ => some k_ ≠ ((.slice Ao42 t166.length co42) : Value).ownBlock ∧ some k_ ≠ ((.slice Ao52 t199.length co52) : Value).ownBlock ∧ some k_ ≠ ((.slice Ao72 t182.length co72) : Value).ownBlock ∧ some k_ ≠ ((.slice Ao184 t215.length co184) : Value).ownBlock) (.slice Ao62 t201.length co62) t201) ∧ Aside0 (Kd.R k55 55 wc w.heap.size (fun k_ => some k_ ≠ ((.slice Ao42 t166.length co42) : Value).ownBlock ∧ some k_ ≠ ((.slice Ao52 t199.length co52) : Value).ownBlock ∧ some k_ ≠ ((.slice Ao62 t201.length co62) : Value).ownBlock ∧ some k_ ≠ ((.slice Ao184 t215.length co184) : Value).ownBlock) (.slice Ao72 t182.length co72) t204) ∧ Aside0 (Kd.R k55 55 wc w.heap.size (fun k_ => some k_ ≠ ((.slice Ao42 t166.length co42) : Value).ownBlock ∧ some k_ ≠ ((.slice Ao52 t199.length co52) : Value).ownBlock ∧ some k_ ≠ ((.slice Ao62 t201.length co62) : Value).ownBlock ∧ some k_ ≠ ((.slice Ao72 t182.length co72) : Value).ownBlock) (.slice Ao184 t215.length co184) t215) ∧ Aside0 (wc.heap[gb153]? = some (.cells #[.int .i64 a0_0, (.slice A0_1 l0_1.length c0_1)] 37 (0, 0))) ∧ Aside0 (wc.heap[gb154]? = some (.cells #[.int .i64 a1_0, (.slice A1_1 l1_1.length c1_1)] 37 (0, 0))) ∧ Aside0 (wc.heap[gb170]? = some (.cells #[.int .i64 t165, (.slice Ao42 t166.length co42)] 28 (0, 0))) ∧ Aside0 (wc.heap[gb175]? = some (.cells #[.int .i64 t171, (.slice Ao52 t199.length co52)] 28 (0, 0))) ∧ Aside0 (wc.heap[gb180]? = some (.cells #[.int .i64 t176, (.slice Ao62 t201.length co62)] 28 (0, 0))) ∧ Aside0 (wc.heap[gb186]? = some (.cells #[.int .i64 t181, (.slice Ao72 t182.length co72)] 28 (0, 0))) ∧ Aside0 (wc.heap[gb219]? = some (.cells #[.int .i64 t214, (.slice Ao184 t215.length co184)] 28 (0, 0))) ∧ Aside0 (Below w.heap.size w wc))
     case first =>
      have H := HC165.out
      clear HC165
      replace H := Option.bind_eq_some_iff.mp H
      obtain ⟨t220, A1860, H⟩ := H
      replace H : (if t220 = true then (laws_FnExactNetJoin.j2 kj107 t203 (t218 != t169) t181 t204) else (laws_FnExactNetJoin.j2 kj107 t203 true t181 t204)) = some r := H
      have A186 := mk_ A1860
      clear A1860
      by_cases c187 : t220 = true
      ·
       subst c187
       have H1 : (laws_FnExactNetJoin.j2 kj107 t203 (t218 != t169) t181 t204) = some r := by rw [if_pos rfl] at H; exact H
       clear H
       have H := H1
       clear H1
       have H' := mk_ H
       clear H
       have hnb188 := NB219_153.out
       have hnc188 := NB153_219.out
       have hnb189 := NB219_154.out
       have hnc189 := NB154_219.out
       have hnb190 := NB219_170.out
       have hnc190 := NB170_219.out
       have hnb191 := NB219_175.out
       have hnc191 := NB175_219.out
       have hnb192 := NB219_180.out
       have hnc192 := NB180_219.out
       have hnb193 := NB219_186.out
       have hnc193 := NB186_219.out
       have hcz194_0 : w182.cell? ⟨gb219, 0, none⟩ = some (.int .i64 0) := b4_ BK219.out 0 rfl
       have hcz194_1 : w182.cell? ⟨gb219, 1, none⟩ = some (.slice none 0 0) := b4_ BK219.out 1 rfl
       have hfz194_0 := blk_frozen BK219.out 0
       have hfz194_1 := blk_frozen BK219.out 1
       have hnb195 := NB170_153.out
       have hnc195 := NB153_170.out
       have hnb196 := NB170_154.out
       have hnc196 := NB154_170.out
       have hnb197 := NB170_175.out
       have hnc197 := NB175_170.out
       have hnb198 := NB170_180.out
       have hnc198 := NB180_170.out
       have hnb199 := NB170_186.out
       have hnc199 := NB186_170.out
       have hcz200_0 : w182.cell? ⟨gb170, 0, none⟩ = some (.int .i64 t165) := b4_ BK170.out 0 rfl
       have hcz200_1 : w182.cell? ⟨gb170, 1, none⟩ = some (.slice Ao42 t166.length co42) := b4_ BK170.out 1 rfl
       have hfz200_0 := blk_frozen BK170.out 0
       have hfz200_1 := blk_frozen BK170.out 1
       go_wp2_with (first | ((with_reducible refine gate_callee (f := 20) rfl ?_); refine goesL_ (some 104) rfl rfl Try.func20 (by kernel_rfl) rfl #[.agg #[.int .i64 t214, .slice Ao184 t215.length co184], .agg #[.int .i64 t165, .slice Ao42 t166.length co42]] rfl (by (try simp only [List.map_toArray, List.map_cons, List.map_nil]); first | done | rfl) ?_; (with_reducible refine (laws_eqNet.calls kj107 t214 _ _ t215 t165 _ _ t166 true _ ?side1 ?side2 ?side3 ?side4 A186.out).mono ?_); (case side1 => refine (Kd.R_reads' (e := 55) (base := w.heap.size) (ok := fun k_ => (some k_ ≠ (v208 : Value).ownBlock ∧ (some k_ ≠ (v212 : Value).ownBlock ∧ (some k_ ≠ (.slice Ao42 t166.length co42 : Value).ownBlock ∧ (some k_ ≠ (.slice Ao52 t199.length co52 : Value).ownBlock ∧ (some k_ ≠ (.slice Ao62 t201.length co62 : Value).ownBlock ∧ some k_ ≠ (.slice Ao72 t182.length co72 : Value).ownBlock)))))) (n := t215.length) (c := co184) ?_).2.2; exact (by (with_reducible repeat (first | apply Kd.R_alloc | apply Kd.R_drewN | apply Kd.R_drew)); exact (Kd.R_mono (Kd.R_far (p := ⟨gb219, 1, none⟩) (Kd.R_far (p := ⟨gb219, 0, none⟩) (Kd.R_types HO217.out BK219.out (by decide)) (fun _ hk => by first | exact hk.2 | trivial) (.int .i64 t214)) (fun _ hk => by first | exact hk.2 | trivial) (.slice Ao184 t215.length co184)) (fun _ h_ => h_.1)))); (case side2 => exact (Kd.R_reads' HO217.out).2.1); (case side3 => refine (Kd.R_reads' (e := 55) (base := w.heap.size) (ok := fun k_ => (some k_ ≠ (v208 : Value).ownBlock ∧ (some k_ ≠ (v212 : Value).ownBlock ∧ (some k_ ≠ (.slice Ao184 t215.length co184 : Value).ownBlock ∧ (some k_ ≠ (.slice Ao52 t199.length co52 : Value).ownBlock ∧ (some k_ ≠ (.slice Ao62 t201.length co62 : Value).ownBlock ∧ some k_ ≠ (.slice Ao72 t182.length co72 : Value).ownBlock)))))) (n := t166.length) (c := co42) ?_).2.2; exact (by (with_reducible repeat (first | apply Kd.R_alloc | apply Kd.R_drewN | apply Kd.R_drew)); exact (Kd.R_mono (Kd.R_far (p := ⟨gb219, 1, none⟩) (Kd.R_far (p := ⟨gb219, 0, none⟩) (Kd.R_types HO_171001.out BK219.out (by decide)) (fun _ hk => by first | exact hk.2 | trivial) (.int .i64 t214)) (fun _ hk => by first | exact hk.2 | trivial) (.slice Ao184 t215.length co184)) (fun _ h_ => h_.1)))); (case side4 => exact (Kd.R_reads' HO_171001.out).2.1); rintro e w201 ⟨rfl, hb⟩; refine ⟨_, rfl, ?_⟩; have n0_ := mk_ (Kd.R_below (Kd.R_mono (Kd.R_far (p := ⟨gb219, 1, none⟩) (Kd.R_far (p := ⟨gb219, 0, none⟩) (Kd.R_types HO_171001.out BK219.out (by decide)) (fun _ hk => by first | exact hk.2 | trivial) (.int .i64 t214)) (fun _ hk => by first | exact hk.2 | trivial) (.slice Ao184 t215.length co184)) (fun _ h_ => h_.1)) hb); have n1_ := mk_ (Kd.R_below (Kd.R_mono (Kd.R_far (p := ⟨gb219, 1, none⟩) (Kd.R_far (p := ⟨gb219, 0, none⟩) (Kd.R_types HO_176001.out BK219.out (by decide)) (fun _ hk => by first | exact hk.2 | trivial) (.int .i64 t214)) (fun _ hk => by first | exact hk.2 | trivial) (.slice Ao184 t215.length co184)) (fun _ h_ => h_.1)) hb); have n2_ := mk_ (Kd.R_below (Kd.R_mono (Kd.R_far (p := ⟨gb219, 1, none⟩) (Kd.R_far (p := ⟨gb219, 0, none⟩) (Kd.R_types HO_181001.out BK219.out (by decide)) (fun _ hk => by first | exact hk.2 | trivial) (.int .i64 t214)) (fun _ hk => by first | exact hk.2 | trivial) (.slice Ao184 t215.length co184)) (fun _ h_ => h_.1)) hb); have n3_ := mk_ (Kd.R_below (Kd.R_mono (Kd.R_far (p := ⟨gb219, 1, none⟩) (Kd.R_far (p := ⟨gb219, 0, none⟩) (Kd.R_types HO_187001.out BK219.out (by decide)) (fun _ hk => by first | exact hk.2 | trivial) (.int .i64 t214)) (fun _ hk => by first | exact hk.2 | trivial) (.slice Ao184 t215.length co184)) (fun _ h_ => h_.1)) hb); have n4_ := mk_ (Kd.R_below (Kd.R_mono (Kd.R_far (p := ⟨gb219, 1, none⟩) (Kd.R_far (p := ⟨gb219, 0, none⟩) (Kd.R_types HO209.out BK219.out (by decide)) (fun _ hk => by first | exact hk.2 | trivial) (.int .i64 t214)) (fun _ hk => by first | exact hk.2 | trivial) (.slice Ao184 t215.length co184)) (fun _ h_ => h_.1)) hb); have n5_ := mk_ (Kd.R_below (Kd.R_mono (Kd.R_far (p := ⟨gb219, 1, none⟩) (Kd.R_far (p := ⟨gb219, 0, none⟩) (Kd.R_types HO213.out BK219.out (by decide)) (fun _ hk => by first | exact hk.2 | trivial) (.int .i64 t214)) (fun _ hk => by first | exact hk.2 | trivial) (.slice Ao184 t215.length co184)) (fun _ h_ => h_.1)) hb); have n6_ := mk_ (Kd.R_below (Kd.R_mono (Kd.R_far (p := ⟨gb219, 1, none⟩) (Kd.R_far (p := ⟨gb219, 0, none⟩) (Kd.R_types HO217.out BK219.out (by decide)) (fun _ hk => by first | exact hk.2 | trivial) (.int .i64 t214)) (fun _ hk => by first | exact hk.2 | trivial) (.slice Ao184 t215.length co184)) (fun _ h_ => h_.1)) hb); have n7_ := mk_ (blk_below (g := gb153) (o := .cells #[.int .i64 a0_0, .slice A0_1 l0_1.length c0_1] 37 (0, 0)) (by (with_reducible repeat (first | refine blk_drewN ?_ _ | refine blk_drew ?_ | refine blk_alloc ?_ _)); refine blk_far ?_ NB153_219.out _; (with_reducible repeat (first | refine blk_drewN ?_ _ | refine blk_drew ?_ | refine blk_alloc ?_ _)); refine blk_far ?_ NB153_219.out _; (with_reducible repeat (first | refine blk_drewN ?_ _ | refine blk_drew ?_ | refine blk_alloc ?_ _)); exact BK153.out) hb); have n8_ := mk_ (blk_below (g := gb154) (o := .cells #[.int .i64 a1_0, .slice A1_1 l1_1.length c1_1] 37 (0, 0)) (by (with_reducible repeat (first | refine blk_drewN ?_ _ | refine blk_drew ?_ | refine blk_alloc ?_ _)); refine blk_far ?_ NB154_219.out _; (with_reducible repeat (first | refine blk_drewN ?_ _ | refine blk_drew ?_ | refine blk_alloc ?_ _)); refine blk_far ?_ NB154_219.out _; (with_reducible repeat (first | refine blk_drewN ?_ _ | refine blk_drew ?_ | refine blk_alloc ?_ _)); exact BK154.out) hb); have n9_ := mk_ (blk_below (g := gb170) (o := .cells #[.int .i64 t165, .slice Ao42 t166.length co42] 28 (0, 0)) (by (with_reducible repeat (first | refine blk_drewN ?_ _ | refine blk_drew ?_ | refine blk_alloc ?_ _)); refine blk_far ?_ NB170_219.out _; (with_reducible repeat (first | refine blk_drewN ?_ _ | refine blk_drew ?_ | refine blk_alloc ?_ _)); refine blk_far ?_ NB170_219.out _; (with_reducible repeat (first | refine blk_drewN ?_ _ | refine blk_drew ?_ | refine blk_alloc ?_ _)); exact BK170.out) hb); have n10_ := mk_ (blk_below (g := gb175) (o := .cells #[.int .i64 t171, .slice Ao52 t199.length co52] 28 (0, 0)) (by (with_reducible repeat (first | refine blk_drewN ?_ _ | refine blk_drew ?_ | refine blk_alloc ?_ _)); refine blk_far ?_ NB175_219.out _; (with_reducible repeat (first | refine blk_drewN ?_ _ | refine blk_drew ?_ | refine blk_alloc ?_ _)); refine blk_far ?_ NB175_219.out _; (with_reducible repeat (first | refine blk_drewN ?_ _ | refine blk_drew ?_ | refine blk_alloc ?_ _)); exact BK175.out) hb); have n11_ := mk_ (blk_below (g := gb180) (o := .cells #[.int .i64 t176, .slice Ao62 t201.length co62] 28 (0, 0)) (by (with_reducible repeat (first | refine blk_drewN ?_ _ | refine blk_drew ?_ | refine blk_alloc ?_ _)); refine blk_far ?_ NB180_219.out _; (with_reducible repeat (first | refine blk_drewN ?_ _ | refine blk_drew ?_ | refine blk_alloc ?_ _)); refine blk_far ?_ NB180_219.out _; (with_reducible repeat (first | refine blk_drewN ?_ _ | refine blk_drew ?_ | refine blk_alloc ?_ _)); exact BK180.out) hb); have n12_ := mk_ (blk_below (g := gb186) (o := .cells #[.int .i64 t181, .slice Ao72 t182.length co72] 28 (0, 0)) (by (with_reducible repeat (first | refine blk_drewN ?_ _ | refine blk_drew ?_ | refine blk_alloc ?_ _)); refine blk_far ?_ NB186_219.out _; (with_reducible repeat (first | refine blk_drewN ?_ _ | refine blk_drew ?_ | refine blk_alloc ?_ _)); refine blk_far ?_ NB186_219.out _; (with_reducible repeat (first | refine blk_drewN ?_ _ | refine blk_drew ?_ | refine blk_alloc ?_ _)); exact BK186.out) hb); have n13_ := mk_ (blk_below (g := gb219) (o := .cells #[.int .i64 t214, .slice Ao184 t215.length co184] 28 (0, 0)) (by (with_reducible repeat (first | refine blk_drewN ?_ _ | refine blk_drew ?_ | refine blk_alloc ?_ _)); refine blk_put (cs := #[.int .i64 t214, .slice none 0 0]) ?_ 1 _ rfl; (with_reducible repeat (first | refine blk_drewN ?_ _ | refine blk_drew ?_ | refine blk_alloc ?_ _)); refine blk_put (cs := #[.int .i64 0, .slice none 0 0]) ?_ 0 _ rfl; (with_reducible repeat (first | refine blk_drewN ?_ _ | refine blk_drew ?_ | refine blk_alloc ?_ _)); exact BK219.out) hb); have n14_ := mk_ (below_step (by repeat (first | (with_reducible first | exact HB.out | apply below_alloc | apply pw_below_drewN | apply below_drew1 | refine below_set ?_ GE153.out | refine below_set ?_ GE154.out | refine below_set ?_ GE170.out | refine below_set ?_ GE175.out | refine below_set ?_ GE180.out | refine below_set ?_ GE186.out | refine below_set ?_ GE219.out) | exact HB.out)) hb); replace HO_171001 := n0_; replace HO_176001 := n1_; replace HO_181001 := n2_; replace HO_187001 := n3_; replace HO209 := n4_; replace HO213 := n5_; replace HO217 := n6_; replace BK153 := n7_; replace BK154 := n8_; replace BK170 := n9_; replace BK175 := n10_; replace BK180 := n11_; replace BK186 := n12_; replace BK219 := n13_; replace HB := n14_; clear n0_ n1_ n2_ n3_ n4_ n5_ n6_ n7_ n8_ n9_ n10_ n11_ n12_ n13_ n14_; (try clear hb); (try clear hb2); (try clear hk); (try clear hi)))
       go_meet
       case rel => exact ⟨_, ((t218 != t169)), (by first | rfl | (simp; done) | (simp [*]; done)), H', ⟨by have := HJ24.out; have := HJ107.out; first | omega | exact Nat.le_refl _⟩, ⟨by (try simp only [hl176001_107]); (try simp only [hl181001_107]); (with_reducible repeat (first | apply Kd.R_alloc | apply Kd.R_drewN | apply Kd.R_drew)); exact Kd.R_mono HO_171001.out (fun _ hk => ⟨hk.2.2.2.1, ⟨hk.2.2.2.2.1, ⟨hk.2.2.2.2.2, hk.2.2.1⟩⟩⟩)⟩, ⟨by (try simp only [hl176001_107]); (try simp only [hl181001_107]); (with_reducible repeat (first | apply Kd.R_alloc | apply Kd.R_drewN | apply Kd.R_drew)); exact Kd.R_mono HO_176001.out (fun _ hk => ⟨hk.2.2.2.1, ⟨hk.2.2.2.2.1, ⟨hk.2.2.2.2.2, hk.2.2.1⟩⟩⟩)⟩, ⟨by (try simp only [hl176001_107]); (try simp only [hl181001_107]); (with_reducible repeat (first | apply Kd.R_alloc | apply Kd.R_drewN | apply Kd.R_drew)); exact Kd.R_mono HO_181001.out (fun _ hk => ⟨hk.2.2.2.1, ⟨hk.2.2.2.2.1, ⟨hk.2.2.2.2.2, hk.2.2.1⟩⟩⟩)⟩, ⟨by (try simp only [hl176001_107]); (try simp only [hl181001_107]); (with_reducible repeat (first | apply Kd.R_alloc | apply Kd.R_drewN | apply Kd.R_drew)); exact Kd.R_mono HO_187001.out (fun _ hk => ⟨hk.2.2.2.1, ⟨hk.2.2.2.2.1, ⟨hk.2.2.2.2.2, hk.2.2.1⟩⟩⟩)⟩, ⟨by (try simp only [hl176001_107]); (try simp only [hl181001_107]); (with_reducible repeat (first | apply Kd.R_alloc | apply Kd.R_drewN | apply Kd.R_drew)); exact Kd.R_mono HO217.out (fun _ hk => ⟨hk.2.2.1, ⟨hk.2.2.2.1, ⟨hk.2.2.2.2.1, hk.2.2.2.2.2⟩⟩⟩)⟩, ⟨by (try simp only [hl176001_107]); (try simp only [hl181001_107]); (with_reducible repeat (first | refine blk_drewN ?_ _ | refine blk_drew ?_ | refine blk_alloc ?_ _)); exact BK153.out⟩, ⟨by (try simp only [hl176001_107]); (try simp only [hl181001_107]); (with_reducible repeat (first | refine blk_drewN ?_ _ | refine blk_drew ?_ | refine blk_alloc ?_ _)); exact BK154.out⟩, ⟨by (try simp only [hl176001_107]); (try simp only [hl181001_107]); (with_reducible repeat (first | refine blk_drewN ?_ _ | refine blk_drew ?_ | refine blk_alloc ?_ _)); exact BK170.out⟩, ⟨by (try simp only [hl176001_107]); (try simp only [hl181001_107]); (with_reducible repeat (first | refine blk_drewN ?_ _ | refine blk_drew ?_ | refine blk_alloc ?_ _)); exact BK175.out⟩, ⟨by (try simp only [hl176001_107]); (try simp only [hl181001_107]); (with_reducible repeat (first | refine blk_drewN ?_ _ | refine blk_drew ?_ | refine blk_alloc ?_ _)); exact BK180.out⟩, ⟨by (try simp only [hl176001_107]); (try simp only [hl181001_107]); (with_reducible repeat (first | refine blk_drewN ?_ _ | refine blk_drew ?_ | refine blk_alloc ?_ _)); exact BK186.out⟩, ⟨by (try simp only [hl176001_107]); (try simp only [hl181001_107]); (with_reducible repeat (first | refine blk_drewN ?_ _ | refine blk_drew ?_ | refine blk_alloc ?_ _)); exact BK219.out⟩, ⟨by repeat (first | (with_reducible first | exact HB.out | apply below_alloc | apply pw_below_drewN | apply below_drew1 | refine below_set ?_ GE153.out | refine below_set ?_ GE154.out | refine below_set ?_ GE170.out | refine below_set ?_ GE175.out | refine below_set ?_ GE180.out | refine below_set ?_ GE186.out | refine below_set ?_ GE219.out) | exact HB.out)⟩⟩
      replace c187 := Bool.eq_false_iff.mpr c187
      subst c187
      have H1 : (laws_FnExactNetJoin.j2 kj107 t203 true t181 t204) = some r := by rw [if_neg (show ¬ (false = true) by decide)] at H; exact H
      clear H
      have H := H1
      clear H1
      have H' := mk_ H
      clear H
      have hnb202 := NB219_153.out
      have hnc202 := NB153_219.out
      have hnb203 := NB219_154.out
      have hnc203 := NB154_219.out
      have hnb204 := NB219_170.out
      have hnc204 := NB170_219.out
      have hnb205 := NB219_175.out
      have hnc205 := NB175_219.out
      have hnb206 := NB219_180.out
      have hnc206 := NB180_219.out
      have hnb207 := NB219_186.out
      have hnc207 := NB186_219.out
      have hcz208_0 : w182.cell? ⟨gb219, 0, none⟩ = some (.int .i64 0) := b4_ BK219.out 0 rfl
      have hcz208_1 : w182.cell? ⟨gb219, 1, none⟩ = some (.slice none 0 0) := b4_ BK219.out 1 rfl
      have hfz208_0 := blk_frozen BK219.out 0
      have hfz208_1 := blk_frozen BK219.out 1
      have hnb209 := NB170_153.out
      have hnc209 := NB153_170.out
      have hnb210 := NB170_154.out
      have hnc210 := NB154_170.out
      have hnb211 := NB170_175.out
      have hnc211 := NB175_170.out
      have hnb212 := NB170_180.out
      have hnc212 := NB180_170.out
      have hnb213 := NB170_186.out
      have hnc213 := NB186_170.out
      have hcz214_0 : w182.cell? ⟨gb170, 0, none⟩ = some (.int .i64 t165) := b4_ BK170.out 0 rfl
      have hcz214_1 : w182.cell? ⟨gb170, 1, none⟩ = some (.slice Ao42 t166.length co42) := b4_ BK170.out 1 rfl
      have hfz214_0 := blk_frozen BK170.out 0
      have hfz214_1 := blk_frozen BK170.out 1
      go_wp2_with (first | ((with_reducible refine gate_callee (f := 20) rfl ?_); refine goesL_ (some 104) rfl rfl Try.func20 (by kernel_rfl) rfl #[.agg #[.int .i64 t214, .slice Ao184 t215.length co184], .agg #[.int .i64 t165, .slice Ao42 t166.length co42]] rfl (by (try simp only [List.map_toArray, List.map_cons, List.map_nil]); first | done | rfl) ?_; (with_reducible refine (laws_eqNet.calls kj107 t214 _ _ t215 t165 _ _ t166 false _ ?side1 ?side2 ?side3 ?side4 A186.out).mono ?_); (case side1 => refine (Kd.R_reads' (e := 55) (base := w.heap.size) (ok := fun k_ => (some k_ ≠ (v208 : Value).ownBlock ∧ (some k_ ≠ (v212 : Value).ownBlock ∧ (some k_ ≠ (.slice Ao42 t166.length co42 : Value).ownBlock ∧ (some k_ ≠ (.slice Ao52 t199.length co52 : Value).ownBlock ∧ (some k_ ≠ (.slice Ao62 t201.length co62 : Value).ownBlock ∧ some k_ ≠ (.slice Ao72 t182.length co72 : Value).ownBlock)))))) (n := t215.length) (c := co184) ?_).2.2; exact (by (with_reducible repeat (first | apply Kd.R_alloc | apply Kd.R_drewN | apply Kd.R_drew)); exact (Kd.R_mono (Kd.R_far (p := ⟨gb219, 1, none⟩) (Kd.R_far (p := ⟨gb219, 0, none⟩) (Kd.R_types HO217.out BK219.out (by decide)) (fun _ hk => by first | exact hk.2 | trivial) (.int .i64 t214)) (fun _ hk => by first | exact hk.2 | trivial) (.slice Ao184 t215.length co184)) (fun _ h_ => h_.1)))); (case side2 => exact (Kd.R_reads' HO217.out).2.1); (case side3 => refine (Kd.R_reads' (e := 55) (base := w.heap.size) (ok := fun k_ => (some k_ ≠ (v208 : Value).ownBlock ∧ (some k_ ≠ (v212 : Value).ownBlock ∧ (some k_ ≠ (.slice Ao184 t215.length co184 : Value).ownBlock ∧ (some k_ ≠ (.slice Ao52 t199.length co52 : Value).ownBlock ∧ (some k_ ≠ (.slice Ao62 t201.length co62 : Value).ownBlock ∧ some k_ ≠ (.slice Ao72 t182.length co72 : Value).ownBlock)))))) (n := t166.length) (c := co42) ?_).2.2; exact (by (with_reducible repeat (first | apply Kd.R_alloc | apply Kd.R_drewN | apply Kd.R_drew)); exact (Kd.R_mono (Kd.R_far (p := ⟨gb219, 1, none⟩) (Kd.R_far (p := ⟨gb219, 0, none⟩) (Kd.R_types HO_171001.out BK219.out (by decide)) (fun _ hk => by first | exact hk.2 | trivial) (.int .i64 t214)) (fun _ hk => by first | exact hk.2 | trivial) (.slice Ao184 t215.length co184)) (fun _ h_ => h_.1)))); (case side4 => exact (Kd.R_reads' HO_171001.out).2.1); rintro e w215 ⟨rfl, hb⟩; refine ⟨_, rfl, ?_⟩; have n0_ := mk_ (Kd.R_below (Kd.R_mono (Kd.R_far (p := ⟨gb219, 1, none⟩) (Kd.R_far (p := ⟨gb219, 0, none⟩) (Kd.R_types HO_171001.out BK219.out (by decide)) (fun _ hk => by first | exact hk.2 | trivial) (.int .i64 t214)) (fun _ hk => by first | exact hk.2 | trivial) (.slice Ao184 t215.length co184)) (fun _ h_ => h_.1)) hb); have n1_ := mk_ (Kd.R_below (Kd.R_mono (Kd.R_far (p := ⟨gb219, 1, none⟩) (Kd.R_far (p := ⟨gb219, 0, none⟩) (Kd.R_types HO_176001.out BK219.out (by decide)) (fun _ hk => by first | exact hk.2 | trivial) (.int .i64 t214)) (fun _ hk => by first | exact hk.2 | trivial) (.slice Ao184 t215.length co184)) (fun _ h_ => h_.1)) hb); have n2_ := mk_ (Kd.R_below (Kd.R_mono (Kd.R_far (p := ⟨gb219, 1, none⟩) (Kd.R_far (p := ⟨gb219, 0, none⟩) (Kd.R_types HO_181001.out BK219.out (by decide)) (fun _ hk => by first | exact hk.2 | trivial) (.int .i64 t214)) (fun _ hk => by first | exact hk.2 | trivial) (.slice Ao184 t215.length co184)) (fun _ h_ => h_.1)) hb); have n3_ := mk_ (Kd.R_below (Kd.R_mono (Kd.R_far (p := ⟨gb219, 1, none⟩) (Kd.R_far (p := ⟨gb219, 0, none⟩) (Kd.R_types HO_187001.out BK219.out (by decide)) (fun _ hk => by first | exact hk.2 | trivial) (.int .i64 t214)) (fun _ hk => by first | exact hk.2 | trivial) (.slice Ao184 t215.length co184)) (fun _ h_ => h_.1)) hb); have n4_ := mk_ (Kd.R_below (Kd.R_mono (Kd.R_far (p := ⟨gb219, 1, none⟩) (Kd.R_far (p := ⟨gb219, 0, none⟩) (Kd.R_types HO209.out BK219.out (by decide)) (fun _ hk => by first | exact hk.2 | trivial) (.int .i64 t214)) (fun _ hk => by first | exact hk.2 | trivial) (.slice Ao184 t215.length co184)) (fun _ h_ => h_.1)) hb); have n5_ := mk_ (Kd.R_below (Kd.R_mono (Kd.R_far (p := ⟨gb219, 1, none⟩) (Kd.R_far (p := ⟨gb219, 0, none⟩) (Kd.R_types HO213.out BK219.out (by decide)) (fun _ hk => by first | exact hk.2 | trivial) (.int .i64 t214)) (fun _ hk => by first | exact hk.2 | trivial) (.slice Ao184 t215.length co184)) (fun _ h_ => h_.1)) hb); have n6_ := mk_ (Kd.R_below (Kd.R_mono (Kd.R_far (p := ⟨gb219, 1, none⟩) (Kd.R_far (p := ⟨gb219, 0, none⟩) (Kd.R_types HO217.out BK219.out (by decide)) (fun _ hk => by first | exact hk.2 | trivial) (.int .i64 t214)) (fun _ hk => by first | exact hk.2 | trivial) (.slice Ao184 t215.length co184)) (fun _ h_ => h_.1)) hb); have n7_ := mk_ (blk_below (g := gb153) (o := .cells #[.int .i64 a0_0, .slice A0_1 l0_1.length c0_1] 37 (0, 0)) (by (with_reducible repeat (first | refine blk_drewN ?_ _ | refine blk_drew ?_ | refine blk_alloc ?_ _)); refine blk_far ?_ NB153_219.out _; (with_reducible repeat (first | refine blk_drewN ?_ _ | refine blk_drew ?_ | refine blk_alloc ?_ _)); refine blk_far ?_ NB153_219.out _; (with_reducible repeat (first | refine blk_drewN ?_ _ | refine blk_drew ?_ | refine blk_alloc ?_ _)); exact BK153.out) hb); have n8_ := mk_ (blk_below (g := gb154) (o := .cells #[.int .i64 a1_0, .slice A1_1 l1_1.length c1_1] 37 (0, 0)) (by (with_reducible repeat (first | refine blk_drewN ?_ _ | refine blk_drew ?_ | refine blk_alloc ?_ _)); refine blk_far ?_ NB154_219.out _; (with_reducible repeat (first | refine blk_drewN ?_ _ | refine blk_drew ?_ | refine blk_alloc ?_ _)); refine blk_far ?_ NB154_219.out _; (with_reducible repeat (first | refine blk_drewN ?_ _ | refine blk_drew ?_ | refine blk_alloc ?_ _)); exact BK154.out) hb); have n9_ := mk_ (blk_below (g := gb170) (o := .cells #[.int .i64 t165, .slice Ao42 t166.length co42] 28 (0, 0)) (by (with_reducible repeat (first | refine blk_drewN ?_ _ | refine blk_drew ?_ | refine blk_alloc ?_ _)); refine blk_far ?_ NB170_219.out _; (with_reducible repeat (first | refine blk_drewN ?_ _ | refine blk_drew ?_ | refine blk_alloc ?_ _)); refine blk_far ?_ NB170_219.out _; (with_reducible repeat (first | refine blk_drewN ?_ _ | refine blk_drew ?_ | refine blk_alloc ?_ _)); exact BK170.out) hb); have n10_ := mk_ (blk_below (g := gb175) (o := .cells #[.int .i64 t171, .slice Ao52 t199.length co52] 28 (0, 0)) (by (with_reducible repeat (first | refine blk_drewN ?_ _ | refine blk_drew ?_ | refine blk_alloc ?_ _)); refine blk_far ?_ NB175_219.out _; (with_reducible repeat (first | refine blk_drewN ?_ _ | refine blk_drew ?_ | refine blk_alloc ?_ _)); refine blk_far ?_ NB175_219.out _; (with_reducible repeat (first | refine blk_drewN ?_ _ | refine blk_drew ?_ | refine blk_alloc ?_ _)); exact BK175.out) hb); have n11_ := mk_ (blk_below (g := gb180) (o := .cells #[.int .i64 t176, .slice Ao62 t201.length co62] 28 (0, 0)) (by (with_reducible repeat (first | refine blk_drewN ?_ _ | refine blk_drew ?_ | refine blk_alloc ?_ _)); refine blk_far ?_ NB180_219.out _; (with_reducible repeat (first | refine blk_drewN ?_ _ | refine blk_drew ?_ | refine blk_alloc ?_ _)); refine blk_far ?_ NB180_219.out _; (with_reducible repeat (first | refine blk_drewN ?_ _ | refine blk_drew ?_ | refine blk_alloc ?_ _)); exact BK180.out) hb); have n12_ := mk_ (blk_below (g := gb186) (o := .cells #[.int .i64 t181, .slice Ao72 t182.length co72] 28 (0, 0)) (by (with_reducible repeat (first | refine blk_drewN ?_ _ | refine blk_drew ?_ | refine blk_alloc ?_ _)); refine blk_far ?_ NB186_219.out _; (with_reducible repeat (first | refine blk_drewN ?_ _ | refine blk_drew ?_ | refine blk_alloc ?_ _)); refine blk_far ?_ NB186_219.out _; (with_reducible repeat (first | refine blk_drewN ?_ _ | refine blk_drew ?_ | refine blk_alloc ?_ _)); exact BK186.out) hb); have n13_ := mk_ (blk_below (g := gb219) (o := .cells #[.int .i64 t214, .slice Ao184 t215.length co184] 28 (0, 0)) (by (with_reducible repeat (first | refine blk_drewN ?_ _ | refine blk_drew ?_ | refine blk_alloc ?_ _)); refine blk_put (cs := #[.int .i64 t214, .slice none 0 0]) ?_ 1 _ rfl; (with_reducible repeat (first | refine blk_drewN ?_ _ | refine blk_drew ?_ | refine blk_alloc ?_ _)); refine blk_put (cs := #[.int .i64 0, .slice none 0 0]) ?_ 0 _ rfl; (with_reducible repeat (first | refine blk_drewN ?_ _ | refine blk_drew ?_ | refine blk_alloc ?_ _)); exact BK219.out) hb); have n14_ := mk_ (below_step (by repeat (first | (with_reducible first | exact HB.out | apply below_alloc | apply pw_below_drewN | apply below_drew1 | refine below_set ?_ GE153.out | refine below_set ?_ GE154.out | refine below_set ?_ GE170.out | refine below_set ?_ GE175.out | refine below_set ?_ GE180.out | refine below_set ?_ GE186.out | refine below_set ?_ GE219.out) | exact HB.out)) hb); replace HO_171001 := n0_; replace HO_176001 := n1_; replace HO_181001 := n2_; replace HO_187001 := n3_; replace HO209 := n4_; replace HO213 := n5_; replace HO217 := n6_; replace BK153 := n7_; replace BK154 := n8_; replace BK170 := n9_; replace BK175 := n10_; replace BK180 := n11_; replace BK186 := n12_; replace BK219 := n13_; replace HB := n14_; clear n0_ n1_ n2_ n3_ n4_ n5_ n6_ n7_ n8_ n9_ n10_ n11_ n12_ n13_ n14_; (try clear hb); (try clear hb2); (try clear hk); (try clear hi)))
      go_meet
      case rel => exact ⟨_, (true), (by first | rfl | (simp; done) | (simp [*]; done)), H', ⟨by have := HJ24.out; have := HJ107.out; first | omega | exact Nat.le_refl _⟩, ⟨by (try simp only [hl176001_107]); (try simp only [hl181001_107]); (with_reducible repeat (first | apply Kd.R_alloc | apply Kd.R_drewN | apply Kd.R_drew)); exact Kd.R_mono HO_171001.out (fun _ hk => ⟨hk.2.2.2.1, ⟨hk.2.2.2.2.1, ⟨hk.2.2.2.2.2, hk.2.2.1⟩⟩⟩)⟩, ⟨by (try simp only [hl176001_107]); (try simp only [hl181001_107]); (with_reducible repeat (first | apply Kd.R_alloc | apply Kd.R_drewN | apply Kd.R_drew)); exact Kd.R_mono HO_176001.out (fun _ hk => ⟨hk.2.2.2.1, ⟨hk.2.2.2.2.1, ⟨hk.2.2.2.2.2, hk.2.2.1⟩⟩⟩)⟩, ⟨by (try simp only [hl176001_107]); (try simp only [hl181001_107]); (with_reducible repeat (first | apply Kd.R_alloc | apply Kd.R_drewN | apply Kd.R_drew)); exact Kd.R_mono HO_181001.out (fun _ hk => ⟨hk.2.2.2.1, ⟨hk.2.2.2.2.1, ⟨hk.2.2.2.2.2, hk.2.2.1⟩⟩⟩)⟩, ⟨by (try simp only [hl176001_107]); (try simp only [hl181001_107]); (with_reducible repeat (first | apply Kd.R_alloc | apply Kd.R_drewN | apply Kd.R_drew)); exact Kd.R_mono HO_187001.out (fun _ hk => ⟨hk.2.2.2.1, ⟨hk.2.2.2.2.1, ⟨hk.2.2.2.2.2, hk.2.2.1⟩⟩⟩)⟩, ⟨by (try simp only [hl176001_107]); (try simp only [hl181001_107]); (with_reducible repeat (first | apply Kd.R_alloc | apply Kd.R_drewN | apply Kd.R_drew)); exact Kd.R_mono HO217.out (fun _ hk => ⟨hk.2.2.1, ⟨hk.2.2.2.1, ⟨hk.2.2.2.2.1, hk.2.2.2.2.2⟩⟩⟩)⟩, ⟨by (try simp only [hl176001_107]); (try simp only [hl181001_107]); (with_reducible repeat (first | refine blk_drewN ?_ _ | refine blk_drew ?_ | refine blk_alloc ?_ _)); exact BK153.out⟩, ⟨by (try simp only [hl176001_107]); (try simp only [hl181001_107]); (with_reducible repeat (first | refine blk_drewN ?_ _ | refine blk_drew ?_ | refine blk_alloc ?_ _)); exact BK154.out⟩, ⟨by (try simp only [hl176001_107]); (try simp only [hl181001_107]); (with_reducible repeat (first | refine blk_drewN ?_ _ | refine blk_drew ?_ | refine blk_alloc ?_ _)); exact BK170.out⟩, ⟨by (try simp only [hl176001_107]); (try simp only [hl181001_107]); (with_reducible repeat (first | refine blk_drewN ?_ _ | refine blk_drew ?_ | refine blk_alloc ?_ _)); exact BK175.out⟩, ⟨by (try simp only [hl176001_107]); (try simp only [hl181001_107]); (with_reducible repeat (first | refine blk_drewN ?_ _ | refine blk_drew ?_ | refine blk_alloc ?_ _)); exact BK180.out⟩, ⟨by (try simp only [hl176001_107]); (try simp only [hl181001_107]); (with_reducible repeat (first | refine blk_drewN ?_ _ | refine blk_drew ?_ | refine blk_alloc ?_ _)); exact BK186.out⟩, ⟨by (try simp only [hl176001_107]); (try simp only [hl181001_107]); (with_reducible repeat (first | refine blk_drewN ?_ _ | refine blk_drew ?_ | refine blk_alloc ?_ _)); exact BK219.out⟩, ⟨by repeat (first | (with_reducible first | exact HB.out | apply below_alloc | apply pw_below_drewN | apply below_drew1 | refine below_set ?_ GE153.out | refine below_set ?_ GE154.out | refine below_set ?_ GE170.out | refine below_set ?_ GE175.out | refine below_set ?_ GE180.out | refine below_set ?_ GE186.out | refine below_set ?_ GE219.out) | exact HB.out)⟩⟩
     case rest =>
      clear HC165
      try clear c1
      try clear c2
      try clear p2
      try clear c18
      try clear c19
      try clear c20
      try clear c21
      try clear c187
      try clear c188
      try clear c189
      try clear c190
      try clear c191
      try clear c192
      try clear c193
      try clear c195
      try clear c196
      try clear c197
      try clear c198
      try clear c199
      try clear c202
      try clear c203
      try clear c204
      try clear c205
      try clear c206
      try clear c207
      try clear c209
      try clear c210
      try clear c211
      try clear c212
      try clear c213
      try clear hcz194_0
      try clear hcz194_1
      try clear hcz200_0
      try clear hcz200_1
      try clear hcz208_0
      try clear hcz208_1
      try clear hcz214_0
      try clear hcz214_1
      try clear hfz194_0
      try clear hfz194_1
      try clear hfz200_0
      try clear hfz200_1
      try clear hfz208_0
      try clear hfz208_1
      try clear hfz214_0
      try clear hfz214_1
      obtain ⟨kq, x110_164, rfl, HA, HJ164, HO_171001, HO_176001, HO_181001, HO_187001, HO_220001, BK153, BK154, BK170, BK175, BK180, BK186, BK219, HB⟩ := hcut
      have hl187001_164 := (Kd.R_reads' HO_187001.out).1
      rw [hl187001_164] at HO_187001
      (try simp only [hl187001_164])
      (try simp only [hl187001_164] at BK153)
      (try simp only [hl187001_164] at BK154)
      (try simp only [hl187001_164] at BK170)
      (try simp only [hl187001_164] at BK175)
      (try simp only [hl187001_164] at BK180)
      (try simp only [hl187001_164] at BK186)
      (try simp only [hl187001_164] at BK219)
      (try simp only [hl187001_164] at HO_171001)
      (try simp only [hl187001_164] at HO_176001)
      (try simp only [hl187001_164] at HO_181001)
      (try simp only [hl187001_164] at HO_220001)
      cases kq with
      | zero => exact absurd HA.out (by simp [laws_FnExactNetJoin.j2])
      | succ kj164 =>
       have H := HA.out
       clear HA
       simp only [laws_FnExactNetJoin.j2] at H
       by_cases c216 : x110_164 = true
       ·
        subst c216
        have H1 : (some false) = some r := by rw [if_pos rfl] at H; exact H
        clear H
        have H := H1
        clear H1
        exact absurd ((Option.some.inj H).trans HTRUE_.out) (by decide)
       replace c216 := Bool.eq_false_iff.mpr c216
       subst c216
       have H1 : ((laws_heldNet.f kj164 t181 t204 1).bind fun t221 => (if t221 < 0 then (some false) else (if t221 = t203 then (some true) else (some false)))) = some r := by rw [if_neg (show ¬ (false = true) by decide)] at H; exact H
       clear H
       have H := H1
       clear H1
       replace H := Option.bind_eq_some_iff.mp H
       obtain ⟨t221, A2170, H⟩ := H
       replace H : (if t221 < 0 then (some false) else (if t221 = t203 then (some true) else (some false))) = some r := H
       have A217 := mk_ A2170
       clear A2170
       by_cases c218 : t221 < 0
       ·
        rw [if_pos c218] at H
        have c218b0 : decide (t221 < 0) = true := decide_eq_true c218
        clear c218
        exact absurd ((Option.some.inj H).trans HTRUE_.out) (by decide)
       rw [if_neg c218] at H
       have c218b0 : decide (t221 < 0) = false := decide_eq_false c218
       clear c218
       by_cases c219 : t221 = t203
       rotate_left
       ·
        rw [if_neg c219] at H
        have c219b0 : (t221 == t203) = false := beq_eq_false_iff_ne.mpr c219
        have c219b1 : (t221 != t203) = true := bne_iff_ne.mpr c219
        exact absurd ((Option.some.inj H).trans HTRUE_.out) (by decide)
       rw [if_pos c219] at H
       have c219b0 : (t221 == t203) = true := beq_iff_eq.mpr c219
       have c219b1 : (t221 != t203) = false := bne_eq_false_iff_eq.mpr c219
       clear c219
       obtain rfl := Option.some.inj H
       have hnb220 := NB186_153.out
       have hnc220 := NB153_186.out
       have hnb221 := NB186_154.out
       have hnc221 := NB154_186.out
       have hnb222 := NB186_170.out
       have hnc222 := NB170_186.out
       have hnb223 := NB186_175.out
       have hnc223 := NB175_186.out
       have hnb224 := NB186_180.out
       have hnc224 := NB180_186.out
       have hnb225 := NB186_219.out
       have hnc225 := NB219_186.out
       have hcz226_0 : wc.cell? ⟨gb186, 0, none⟩ = some (.int .i64 t181) := b4_ BK186.out 0 rfl
       have hcz226_1 : wc.cell? ⟨gb186, 1, none⟩ = some (.slice Ao72 t204.length co72) := b4_ BK186.out 1 rfl
       have hfz226_0 := blk_frozen BK186.out 0
       have hfz226_1 := blk_frozen BK186.out 1
       go_wp2_with (first | ((with_reducible refine gate_callee (f := 22) rfl ?_); refine goesL_ (some 113) rfl rfl Try.func22 (by kernel_rfl) rfl #[.agg #[.int .i64 t181, .slice Ao72 t204.length co72], .int .i64 1] rfl (by (try simp only [List.map_toArray, List.map_cons, List.map_nil]); first | done | rfl) ?_; (with_reducible refine (laws_heldNet.calls kj164 t181 _ _ t204 1 t221 _ ?side1 ?side2 A217.out).mono ?_); (case side1 => repeat (first | exact (Kd.R_reads' HO_187001.out).2.2 | (with_reducible refine Kd.C_alloc ?_ _) | (with_reducible refine Kd.C_drewN ?_ _) | (with_reducible refine Kd.C_drew ?_))); (case side2 => exact (Kd.R_reads' HO_187001.out).2.1); rintro e w227 ⟨rfl, hb⟩; refine ⟨_, rfl, ?_⟩; have n0_ := mk_ (Kd.R_below HO_171001.out hb); have n1_ := mk_ (Kd.R_below HO_176001.out hb); have n2_ := mk_ (Kd.R_below HO_181001.out hb); have n3_ := mk_ (Kd.R_below HO_187001.out hb); have n4_ := mk_ (Kd.R_below HO_220001.out hb); have n5_ := mk_ (blk_below BK153.out hb); have n6_ := mk_ (blk_below BK154.out hb); have n7_ := mk_ (blk_below BK170.out hb); have n8_ := mk_ (blk_below BK175.out hb); have n9_ := mk_ (blk_below BK180.out hb); have n10_ := mk_ (blk_below BK186.out hb); have n11_ := mk_ (blk_below BK219.out hb); have n12_ := mk_ (below_step (by repeat (first | (with_reducible first | exact HB.out | apply below_alloc | apply pw_below_drewN | apply below_drew1 | refine below_set ?_ GE153.out | refine below_set ?_ GE154.out | refine below_set ?_ GE170.out | refine below_set ?_ GE175.out | refine below_set ?_ GE180.out | refine below_set ?_ GE186.out | refine below_set ?_ GE219.out) | exact HB.out)) hb); replace HO_171001 := n0_; replace HO_176001 := n1_; replace HO_181001 := n2_; replace HO_187001 := n3_; replace HO_220001 := n4_; replace BK153 := n5_; replace BK154 := n6_; replace BK170 := n7_; replace BK175 := n8_; replace BK180 := n9_; replace BK186 := n10_; replace BK219 := n11_; replace HB := n12_; clear n0_ n1_ n2_ n3_ n4_ n5_ n6_ n7_ n8_ n9_ n10_ n11_ n12_; (try clear hb); (try clear hb2); (try clear hk); (try clear hi)))
       go_ret
       exact ⟨by first | rfl | (simp [errW_none, errW_some] <;> rfl) | (simp [*, errW_none, errW_some] <;> rfl), by repeat (first | (with_reducible first | exact HB.out | apply below_alloc | apply pw_below_drewN | apply below_drew1 | refine below_set ?_ GE153.out | refine below_set ?_ GE154.out | refine below_set ?_ GE170.out | refine below_set ?_ GE175.out | refine below_set ?_ GE180.out | refine below_set ?_ GE186.out | refine below_set ?_ GE219.out) | exact HB.out)⟩

end Go.Proofs.Ytekfpjblakindaa.PFnExactNetJoin

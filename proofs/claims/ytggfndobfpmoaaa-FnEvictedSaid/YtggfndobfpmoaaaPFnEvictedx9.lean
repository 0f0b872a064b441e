-- Laid by a program of this session: what the print of the kit writes, and contracts of the session where the print takes no function. Lean checks it.
import Derived.Test.YtggfndobfpmoaaaPFnEvictedx0
import Derived.Test.YtggfndobfpmoaaaPFnEvictedx5
import Derived.Test.YtggfndobfpmoaaaPFnEvictedx6
import Derived.Test.YtggfndobfpmoaaaPFnEvictedx8
namespace Go.Proofs.Ytggfndobfpmoaaa.PFnEvicted
open Go.RowKit Go.Proofs.YtggfndobfpmoaaaW.PrintWords Go.Proofs.YtggfndobfpmoaaaW.PrintLast Go.Proofs.YtggfndobfpmoaaaW.PrintMore
attribute [local go_sem] max2_int min2_int max_two min_two max_three min_three max_four min_four   -- for this text's walks alone
set_option linter.unusedVariables false
set_option linter.unusedSimpArgs false

/-! ### spec_EvictPlan: function 41 -/
mutual
def spec_EvictPlan.l0 : Nat → List (S26) → Int → Int → List (S67) → List (S26) → Int → Option ((List (S67)))
  | 0, _, _, _, _, _, _ => none
  | k + 1, x0, x1, x3, x9, x10, x11 => if x11 ≥ 0 then (spec_EvictPlan.l1 k x0 x1 x3 x9 x10 x11 0 0) else (some x9)
def spec_EvictPlan.l1 : Nat → List (S26) → Int → Int → List (S67) → List (S26) → Int → Int → Int → Option ((List (S67)))
  | 0, _, _, _, _, _, _, _, _ => none
  | k + 1, x0, x1, x3, x9, x10, x11, x12, x13 => if x13 < (x0.length : Int) then (if 0 ≤ x13 then ((spec_StashFind.f k x10 ((rd_T26 x0 x13).f0)).bind fun bt381 => (if bt381.2.2.2 = true then (if x12 < 4 then ((spec_Meet.f k x1 ((rd_T26 x0 x13).f1) x3).bind fun t389 => (if t389 ≥ x11 then (if x9.length < 8796093022208 then ((spec_l13Without.f k x10 ((rd_T26 x0 x13).f0)).bind fun t395 => (spec_EvictPlan.l1 k x0 x1 x3 (x9 ++ [(⟨x11, (rd_T26 x0 x13).f0⟩ : S67)]) t395 x11 (wrap64 (x12 + 1)) (wrap64 (x13 + 1)))) else (none)) else (spec_EvictPlan.l1 k x0 x1 x3 x9 x10 x11 x12 (wrap64 (x13 + 1))))) else (spec_EvictPlan.l1 k x0 x1 x3 x9 x10 x11 x12 (wrap64 (x13 + 1)))) else (spec_EvictPlan.l1 k x0 x1 x3 x9 x10 x11 x12 (wrap64 (x13 + 1))))) else (none)) else (spec_EvictPlan.l0 k x0 x1 x3 x9 x10 (wrap64 (x11 - 1)))
end
def spec_EvictPlan.f (k : Nat) (l0 : List (S26)) (a1 : Int) (a2 : Int) (a3 : Int) : Option ((List (S67))) := (spec_StashOk.f k l0 a1 a2).bind fun t372 => (if t372 = true then ((spec_l11Leaf.f k a1 a3).bind fun t373 => (if t373 = true then ((spec_l13Copy.f k l0).bind fun t377 => (spec_EvictPlan.l0 k l0 a1 a3 (([] : List (S67))) t377 a1)) else (some ([] : List (S67))))) else (some ([] : List (S67))))
theorem spec_EvictPlan.mono_l : ∀ k, (∀ y0 y1 y2 y3 y4 y5, LeO (spec_EvictPlan.l0 k y0 y1 y2 y3 y4 y5) (spec_EvictPlan.l0 (k + 1) y0 y1 y2 y3 y4 y5)) ∧ (∀ y0 y1 y2 y3 y4 y5 y6 y7, LeO (spec_EvictPlan.l1 k y0 y1 y2 y3 y4 y5 y6 y7) (spec_EvictPlan.l1 (k + 1) y0 y1 y2 y3 y4 y5 y6 y7))
  | 0 => ⟨fun _ _ _ _ _ _ r h => by simp [spec_EvictPlan.l0] at h, fun _ _ _ _ _ _ _ _ r h => by simp [spec_EvictPlan.l1] at h⟩
  | k + 1 => by
    obtain ⟨ih0, ih1⟩ := spec_EvictPlan.mono_l k
    refine ⟨?_, ?_⟩
    · intro y0 y1 y2 y3 y4 y5
      unfold spec_EvictPlan.l0
      repeat' first | (with_reducible exact ih1 _ _ _ _ _ _ _ _) | (with_reducible exact LeO.refl _) | (with_reducible refine LeO.ite ?_ ?_)
    · intro y0 y1 y2 y3 y4 y5 y6 y7
      unfold spec_EvictPlan.l1
      repeat' first | (with_reducible exact ih0 _ _ _ _ _ _) | (with_reducible exact ih1 _ _ _ _ _ _ _ _) | (with_reducible exact spec_Meet.mono _ _ _ _) | (with_reducible exact spec_StashFind.mono _ _ _) | (with_reducible exact spec_l13Without.mono _ _ _) | (with_reducible exact LeO.refl _) | (with_reducible refine LeO.ite ?_ ?_) | (with_reducible refine LeO.bind ?_ (fun _ => ?_))
theorem spec_EvictPlan.mono : ∀ a0 a1 a2 a3 k, LeO (spec_EvictPlan.f k a0 a1 a2 a3) (spec_EvictPlan.f (k + 1) a0 a1 a2 a3) := by
  intro a0 a1 a2 a3 k
  obtain ⟨ih0, ih1⟩ := spec_EvictPlan.mono_l k
  unfold spec_EvictPlan.f
  repeat' first | (with_reducible exact ih0 _ _ _ _ _ _) | (with_reducible exact spec_StashOk.mono _ _ _ _) | (with_reducible exact spec_l11Leaf.mono _ _ _) | (with_reducible exact spec_l13Copy.mono _ _) | (with_reducible exact LeO.refl _) | (with_reducible refine LeO.ite ?_ ?_) | (with_reducible refine LeO.bind ?_ (fun _ => ?_))
theorem b41_ {w : World} {g : Nat} {t : TypeId} {cs : Array Value} {v : Value} (h : w.heap[g]? = some (.cells cs t (0, 0))) (i : Nat) (hv : cs[i]? = some v) : w.cell? ⟨g, i, none⟩ = some v := (blk_cell h i).trans hv
set_option maxHeartbeats 8000000 in
set_option maxRecDepth 100000 in
theorem spec_EvictPlan.calls (k : Nat) (A0 : Option Addr) (c0 : Nat) (l0 : List (S26)) (a1 : Int) (a2 : Int) (a3 : Int) (r : List (S67)) (w : World) (hr0 : Kd.C k26 w A0 l0.length l0) (hc0 : l0.length ≤ c0) (h : spec_EvictPlan.f k l0 a1 a2 a3 = some r) :
    Calls Try.prog 41 #[.slice A0 l0.length c0, .int .i64 a1, .int .i64 a2, .int .i64 a3] w fun e w' => ∃ v0_ : Value, e = .returned (v0_) ∧ Kd.R k67 67 w' w.heap.size (fun _ => True) v0_ r ∧ Below w.heap.size w w' := by
 have hu26 := Try.underlying26
 have hu67 := Try.underlying67
 have HR0 := Aside0.mk hr0
 have HC0 := Aside0.mk hc0
 clear hr0 hc0
 have HB := Aside0.mk (Below.refl w.heap.size w)
 have H : ((spec_StashOk.f k l0 a1 a2).bind fun t372 => (if t372 = true then ((spec_l11Leaf.f k a1 a3).bind fun t373 => (if t373 = true then ((spec_l13Copy.f k l0).bind fun t377 => (spec_EvictPlan.l0 k l0 a1 a3 (([] : List (S67))) t377 a1)) else (some ([] : List (S67))))) else (some ([] : List (S67))))) = some r := h
 clear h
 replace H := Option.bind_eq_some_iff.mp H
 obtain ⟨t372, A50, H⟩ := H
 replace H : (if t372 = true then ((spec_l11Leaf.f k a1 a3).bind fun t373 => (if t373 = true then ((spec_l13Copy.f k l0).bind fun t377 => (spec_EvictPlan.l0 k l0 a1 a3 (([] : List (S67))) t377 a1)) else (some ([] : List (S67))))) else (some ([] : List (S67)))) = some r := H
 have A5 := Aside0.mk A50
 clear A50
 by_cases c6 : t372 = true
 rotate_left
 ·
  replace c6 := Bool.eq_false_iff.mpr c6
  subst c6
  have H1 : (some ([] : List (S67))) = some r := by rw [if_neg (show ¬ (false = true) by decide)] at H; exact H
  clear H
  have H := H1
  clear H1
  obtain rfl := Option.some.inj H
  go_enter Try.func41, Try.ntmps41
  go_wp2_with (((with_reducible refine gate_callee (f := 43) rfl ?_); refine goesL_ (some 19) rfl rfl Try.func43 (by kernel_rfl) rfl #[.slice A0 l0.length c0, .int .i64 a1, .int .i64 a2] rfl (by (try simp only [List.map_toArray, List.map_cons, List.map_nil]); rfl) ?_; (with_reducible refine (spec_StashOk.calls k _ _ l0 a1 a2 false _ ?side1 ?side2 A5.out).mono ?_); (case side1 => repeat (exact HR0.out)); (case side2 => exact HC0.out); rintro e w49 ⟨rfl, hb⟩; refine ⟨_, rfl, ?_⟩; have n0_ := Aside0.mk (below_step (by repeat ((with_reducible exact HB.out))) hb); clear HB; have HB := n0_; clear n0_; (try clear hb); (try clear hb2); (try clear hk); (try clear hi)))
  go_ret
  exact ⟨_, by rfl, by exact Kd.R_nil _ _ _ _ _, by repeat ((with_reducible exact HB.out))⟩
 subst c6
 have H1 : ((spec_l11Leaf.f k a1 a3).bind fun t373 => (if t373 = true then ((spec_l13Copy.f k l0).bind fun t377 => (spec_EvictPlan.l0 k l0 a1 a3 (([] : List (S67))) t377 a1)) else (some ([] : List (S67))))) = some r := by rw [if_pos rfl] at H; exact H
 clear H
 have H := H1
 clear H1
 replace H := Option.bind_eq_some_iff.mp H
 obtain ⟨t373, A70, H⟩ := H
 replace H : (if t373 = true then ((spec_l13Copy.f k l0).bind fun t377 => (spec_EvictPlan.l0 k l0 a1 a3 (([] : List (S67))) t377 a1)) else (some ([] : List (S67)))) = some r := H
 have A7 := Aside0.mk A70
 clear A70
 by_cases c8 : t373 = true
 rotate_left
 ·
  replace c8 := Bool.eq_false_iff.mpr c8
  subst c8
  have H1 : (some ([] : List (S67))) = some r := by rw [if_neg (show ¬ (false = true) by decide)] at H; exact H
  clear H
  have H := H1
  clear H1
  obtain rfl := Option.some.inj H
  go_enter Try.func41, Try.ntmps41
  go_wp2_with (first | ((with_reducible refine gate_callee (f := 43) rfl ?_); refine goesL_ (some 19) rfl rfl Try.func43 (by kernel_rfl) rfl #[.slice A0 l0.length c0, .int .i64 a1, .int .i64 a2] rfl (by (try simp only [List.map_toArray, List.map_cons, List.map_nil]); rfl) ?_; (with_reducible refine (spec_StashOk.calls k _ _ l0 a1 a2 true _ ?side1 ?side2 A5.out).mono ?_); (case side1 => repeat (exact HR0.out)); (case side2 => exact HC0.out); rintro e w48 ⟨rfl, hb⟩; refine ⟨_, rfl, ?_⟩; have n0_ := Aside0.mk (below_step (by repeat ((with_reducible exact HB.out))) hb); clear HB; have HB := n0_; clear n0_; (try clear hb); (try clear hb2); (try clear hk); (try clear hi)) | (go_at_call 70; (with_reducible refine (spec_l11Leaf.calls k a1 a3 false _ A7.out).mono ?_); rintro e w' ⟨rfl, ⟨nd, rfl⟩⟩))
  go_ret
  exact ⟨_, by rfl, by exact Kd.R_nil _ _ _ _ _, by repeat ((with_reducible first | exact HB.out | apply pw_below_drewN))⟩
 subst c8
 have H1 : ((spec_l13Copy.f k l0).bind fun t377 => (spec_EvictPlan.l0 k l0 a1 a3 (([] : List (S67))) t377 a1)) = some r := by rw [if_pos rfl] at H; exact H
 clear H
 have H := H1
 clear H1
 obtain ⟨y374, hy374⟩ : ∃ y_ : List (S67), y_ = (([] : List (S67))) := ⟨_, rfl⟩
 replace H : ((spec_l13Copy.f k l0).bind fun t377 => (spec_EvictPlan.l0 k l0 a1 a3 y374 t377 a1)) = some r := by (rw [hy374]; with_reducible exact H)
 have Ny374 := Aside0.mk hy374
 clear hy374
 replace H := Option.bind_eq_some_iff.mp H
 obtain ⟨t377, A90, H⟩ := H
 replace H : (spec_EvictPlan.l0 k l0 a1 a3 y374 t377 a1) = some r := H
 have A9 := Aside0.mk A90
 clear A90
 have H' := Aside0.mk H
 clear H
 go_enter Try.func41, Try.ntmps41
 go_wp2_with (first | ((with_reducible refine gate_callee (f := 43) rfl ?_); refine goesL_ (some 19) rfl rfl Try.func43 (by kernel_rfl) rfl #[.slice A0 l0.length c0, .int .i64 a1, .int .i64 a2] rfl (by (try simp only [List.map_toArray, List.map_cons, List.map_nil]); rfl) ?_; (with_reducible refine (spec_StashOk.calls k _ _ l0 a1 a2 true _ ?side1 ?side2 A5.out).mono ?_); (case side1 => repeat (exact HR0.out)); (case side2 => exact HC0.out); rintro e w10 ⟨rfl, hb⟩; refine ⟨_, rfl, ?_⟩; have n0_ := Aside0.mk (below_step (by repeat ((with_reducible exact HB.out))) hb); clear HB; have HB := n0_; clear n0_; (try clear hb); (try clear hb2); (try clear hk); (try clear hi)) | (go_at_call 70; (with_reducible refine (spec_l11Leaf.calls k a1 a3 true _ A7.out).mono ?_); rintro e w' ⟨rfl, ⟨nd, rfl⟩⟩) | ((with_reducible refine gate_dst (N := 27) rfl ?_); refine Kd.R_lit k67 _ 67 ?hg (N := 27) ?hd (xs := ([] : List (S67))) (inner := []) (ok := fun _ => True) (okp := fun _ => True) ?hr ?hp (fun _ hk => hk) trivial (Below.refl _ _) (Nat.le_refl _) (by simp) ?_; (case hd => rfl); (case hg => rfl); (case hr => (go_simp; done)); (case hp => exact (Reps.none _ _)); intro v375 w11 ho12 hb hg_ hnew_; clear hg_ hnew_; (rw [← Ny374.out] at ho12); have n0_ := Aside0.mk (Kd.R_lower ho12 (below_size (by repeat ((with_reducible first | exact HB.out | apply pw_below_drewN))))); have n1_ := Aside0.mk (below_step (by repeat ((with_reducible first | exact HB.out | apply pw_below_drewN))) hb); clear HB; have HO376 := n0_; have HB := n1_; clear n0_ n1_; clear hb ho12) | ((with_reducible refine gate_callee (f := 49) rfl ?_); refine goesL_ (some 29) rfl rfl Try.func49 (by kernel_rfl) rfl #[.slice A0 l0.length c0] rfl (by (try simp only [List.map_toArray, List.map_cons, List.map_nil]); rfl) ?_; (with_reducible refine (spec_l13Copy.calls k _ _ l0 t377 _ ?side1 ?side2 A9.out).mono ?_); (case side1 => repeat (exact (Kd.C_below HR0.out HB.out))); (case side2 => exact HC0.out); rintro e w13 ⟨v378, rfl, ho0, hb⟩; refine ⟨_, rfl, ?_⟩; have n0_ := Aside0.mk (Kd.R_below (by (with_reducible repeat (first | apply Kd.R_alloc | apply Kd.R_drewN | apply Kd.R_drew)); exact HO376.out) hb); have n1_ := Aside0.mk (Kd.S_lower ho0 (below_size (by repeat ((with_reducible exact HB.out))))); have n2_ := Aside0.mk (below_step (by repeat ((with_reducible exact HB.out))) hb); clear HO376; clear HB; have HO376 := n0_; have HO379 := n1_; have HB := n2_; clear n0_ n1_ n2_; (try clear hb); (try clear hb2); (try clear hk); (try clear hi); (try clear ho0)))
 go_loopg [9, 10, 11] k (fun kq v9 v10 v11 w' => ∃ (x9_1 : List (S67)) (x10_1 : List (S26)) (x11_1 : Int), v11 = .int .i64 x11_1 ∧ Aside0 (spec_EvictPlan.l0 kq l0 a1 a3 x9_1 x10_1 x11_1 = some r) ∧ Aside0 (kq ≤ k) ∧ Aside0 (Kd.R k67 67 w' w.heap.size (fun _ => True) v9 x9_1) ∧ Aside0 (Kd.S k26 26 w' w.heap.size (fun _ => True) v10 x10_1) ∧ Aside0 (Below w.heap.size w w'))
 case atStart => exact ⟨(y374), (t377), (a1), (by rfl), H', ⟨Nat.le_refl _⟩, ⟨by (with_reducible repeat (first | apply Kd.R_alloc | apply Kd.R_drewN | apply Kd.R_drew)); exact HO376.out⟩, ⟨by (with_reducible repeat (first | apply Kd.S_alloc | apply Kd.S_drewN | apply Kd.S_drew)); exact HO379.out⟩, ⟨by repeat ((with_reducible exact HB.out))⟩⟩
 case round =>
  clear H'
  try clear p2
  try clear c4
  try clear c6
  try clear c8
  obtain ⟨x9_1, x10_1, x11_1, rfl, HA, HK1, HO_9, HO_10, HB⟩ := hrel
  cases gk with
  | zero => exact absurd HA.out (by simp [spec_EvictPlan.l0])
  | succ k1 =>
   have H := HA.out
   clear HA
   simp only [spec_EvictPlan.l0] at H
   by_cases c14 : x11_1 ≥ 0
   rotate_left
   ·
    rw [if_neg c14] at H
    have c14b0 : decide (0 ≤ x11_1) = false := decide_eq_false c14
    clear c14
    obtain rfl := Option.some.inj H
    go_wp2
    go_ret
    exact ⟨_, by rfl, by (with_reducible repeat (first | apply Kd.R_alloc | apply Kd.R_drewN | apply Kd.R_drew)); exact HO_9.out, by repeat ((with_reducible exact HB.out))⟩
   rw [if_pos c14] at H
   have c14b0 : decide (0 ≤ x11_1) = true := decide_eq_true c14
   clear c14
   have H' := Aside0.mk H
   clear H
   go_wp2
   go_loopg [9, 10, 12, 13] k1 (fun kq v9 v10 v12 v13 w' => ∃ (x9_2 : List (S67)) (x10_2 : List (S26)) (x12_2 : Int) (x13_2 : Int), v12 = .int .i64 x12_2 ∧ v13 = .int .i64 x13_2 ∧ Aside0 (spec_EvictPlan.l1 kq l0 a1 a3 x9_2 x10_2 x11_1 x12_2 x13_2 = some r) ∧ Aside0 (kq ≤ k1) ∧ Aside0 (Kd.R k67 67 w' w.heap.size (fun _ => True) v9 x9_2) ∧ Aside0 (Kd.S k26 26 w' w.heap.size (fun _ => True) v10 x10_2) ∧ Aside0 (Below w.heap.size w w'))
   case atStart => exact ⟨(x9_1), (x10_1), (0), (0), (by rfl), (by rfl), H', ⟨Nat.le_refl _⟩, ⟨by (with_reducible repeat (first | apply Kd.R_alloc | apply Kd.R_drewN | apply Kd.R_drew)); exact HO_9.out⟩, ⟨by (with_reducible repeat (first | apply Kd.S_alloc | apply Kd.S_drewN | apply Kd.S_drew)); exact HO_10.out⟩, ⟨by repeat ((with_reducible exact HB.out))⟩⟩
   case round =>
    clear H'
    try clear c1
    try clear p2
    try clear c4
    try clear c6
    try clear c8
    try clear c14
    try clear c14b0
    try clear p2
    obtain ⟨x9_2, x10_2, x12_2, x13_2, rfl, rfl, HA, HK2, HO_9, HO_10, HB⟩ := hrel
    cases gk with
    | zero => exact absurd HA.out (by simp [spec_EvictPlan.l1])
    | succ k2 =>
     have H := HA.out
     clear HA
     simp only [spec_EvictPlan.l1] at H
     by_cases c15 : x13_2 < (l0.length : Int)
     rotate_left
     ·
      rw [if_neg c15] at H
      have c15b0 : decide (x13_2 < (l0.length : Int)) = false := decide_eq_false c15
      clear c15
      have H' := Aside0.mk H
      clear H
      go_wp2
      go_roundg k2
      case measure => have := HK1.out; have := HK2.out; omega
      case rel => exact ⟨(x9_2), (x10_2), (wrap64 (x11_1 - 1)), (by rfl), H', ⟨by have := HK1.out; have := HK2.out; omega⟩, ⟨by (with_reducible repeat (first | apply Kd.R_alloc | apply Kd.R_drewN | apply Kd.R_drew)); exact HO_9.out⟩, ⟨by (with_reducible repeat (first | apply Kd.S_alloc | apply Kd.S_drewN | apply Kd.S_drew)); exact HO_10.out⟩, ⟨by repeat ((with_reducible exact HB.out))⟩⟩
     rw [if_pos c15] at H
     have c15b0 : decide (x13_2 < (l0.length : Int)) = true := decide_eq_true c15
     clear c15
     by_cases c16 : 0 ≤ x13_2
     rotate_left
     ·
      rw [if_neg c16] at H
      exact absurd H (by simp)
     rw [if_pos c16] at H
     have c16b0 : decide (0 ≤ x13_2) = true := decide_eq_true c16
     clear c16
     replace H := Option.bind_eq_some_iff.mp H
     obtain ⟨⟨t381, t382, t383, t386⟩, A170, H⟩ := H
     replace H : (if t386 = true then (if x12_2 < 4 then ((spec_Meet.f k2 a1 ((rd_T26 l0 x13_2).f1) a3).bind fun t389 => (if t389 ≥ x11_1 then (if x9_2.length < 8796093022208 then ((spec_l13Without.f k2 x10_2 ((rd_T26 l0 x13_2).f0)).bind fun t395 => (spec_EvictPlan.l1 k2 l0 a1 a3 (x9_2 ++ [(⟨x11_1, (rd_T26 l0 x13_2).f0⟩ : S67)]) t395 x11_1 (wrap64 (x12_2 + 1)) (wrap64 (x13_2 + 1)))) else (none)) else (spec_EvictPlan.l1 k2 l0 a1 a3 x9_2 x10_2 x11_1 x12_2 (wrap64 (x13_2 + 1))))) else (spec_EvictPlan.l1 k2 l0 a1 a3 x9_2 x10_2 x11_1 x12_2 (wrap64 (x13_2 + 1)))) else (spec_EvictPlan.l1 k2 l0 a1 a3 x9_2 x10_2 x11_1 x12_2 (wrap64 (x13_2 + 1)))) = some r := H
     have A17 := Aside0.mk A170
     clear A170
     by_cases c18 : t386 = true
     rotate_left
     ·
      replace c18 := Bool.eq_false_iff.mpr c18
      subst c18
      have H1 : (spec_EvictPlan.l1 k2 l0 a1 a3 x9_2 x10_2 x11_1 x12_2 (wrap64 (x13_2 + 1))) = some r := by rw [if_neg (show ¬ (false = true) by decide)] at H; exact H
      clear H
      have H := H1
      clear H1
      have H' := Aside0.mk H
      clear H
      have p380 : 0 ≤ (x13_2 : Int) := of_decide_eq_true (by (with_reducible assumption))
      have q380 : x13_2 < (l0.length : Int) := of_decide_eq_true (by (with_reducible assumption))
      obtain ⟨ad380, A380_2, c380_2, e380, hx380_0, hx380_1, hx380_2, hl380_2, hi380_2⟩ := at_T26 HR0.out x13_2 p380 q380
      cases e380
      replace hx380_0 := (HB.out.cell (World.block_lt_of_cell? w _ hx380_0)).trans hx380_0
      replace hx380_1 := (HB.out.cell (World.block_lt_of_cell? w _ hx380_1)).trans hx380_1
      replace hx380_2 := (HB.out.cell (World.block_lt_of_cell? w _ hx380_2)).trans hx380_2
      have HR380_2 := Aside0.mk hi380_2
      have HC380_2 := Aside0.mk hl380_2
      clear hi380_2 hl380_2
      replace p380 := eq_true p380
      replace q380 := eq_true q380
      obtain ⟨Ao43, co43, eo43⟩ := Kd.S_slice HO_10.out
      subst eo43
      go_wp2_with (first | ((with_reducible refine gate_callee (f := 10) rfl ?_); refine goesL_ (some 48) rfl rfl Try.func10 (by kernel_rfl) rfl #[.slice Ao43 x10_2.length co43, .int .i64 ((rd_T26 l0 x13_2).f0)] rfl (by (try simp only [List.map_toArray, List.map_cons, List.map_nil]); rfl) ?_; (with_reducible refine (spec_StashFind.calls k2 _ _ x10_2 ((rd_T26 l0 x13_2).f0) t381 t382 t383 false _ ?side1 ?side2 A17.out).mono ?_); (case side1 => repeat (exact (Kd.S_reads' HO_10.out).2.2)); (case side2 => exact (Kd.S_reads' HO_10.out).2.1); rintro e w44 ⟨v384, rfl, ho0, hb⟩; refine ⟨_, rfl, ?_⟩; have n0_ := Aside0.mk (Kd.R_below (by (with_reducible repeat (first | apply Kd.R_alloc | apply Kd.R_drewN | apply Kd.R_drew)); exact HO_9.out) hb); have n1_ := Aside0.mk (Kd.S_elder' (by (with_reducible repeat (first | apply Kd.S_alloc | apply Kd.S_drewN | apply Kd.S_drew)); exact HO_10.out) (Kd.R_base ho0) hb); have n2_ := Aside0.mk (Kd.R_lower ho0 (below_size (by repeat ((with_reducible exact HB.out))))); have n3_ := Aside0.mk (below_step (by repeat ((with_reducible exact HB.out))) hb); clear HO_9; clear HO_10; clear HB; have HO_9 := n0_; have HO_10 := n1_; have HO385 := n2_; have HB := n3_; clear n0_ n1_ n2_ n3_; (try clear hb); (try clear hb2); (try clear hk); (try clear hi); (try clear ho0)) | ((with_reducible refine gate_dst (N := 14) rfl ?_); refine box_event ?hg (N := 14) ?hd (cs := #[.int .i64 0, .int .i64 0, .slice none 0 0]) (t := 26) ?hr ?_; (case hd => rfl); (case hg => rfl); (case hr => (go_simp; done)); intro gb387 hg w45 hbox hb; have n0_ := Aside0.mk (Kd.R_below (by (with_reducible repeat (first | apply Kd.R_alloc | apply Kd.R_drewN | apply Kd.R_drew)); exact HO_9.out) hb); have n1_ := Aside0.mk (Kd.S_below (Kd.S_elderB (by (with_reducible repeat (first | apply Kd.S_alloc | apply Kd.S_drewN | apply Kd.S_drew)); exact HO_10.out) gb387 (Nat.le_of_eq hg.symm)) hb); have n2_ := Aside0.mk (Kd.R_below (by (with_reducible repeat (first | apply Kd.R_alloc | apply Kd.R_drewN | apply Kd.R_drew)); exact HO385.out) hb); have n3_ := Aside0.mk (below_step (by repeat ((with_reducible exact HB.out))) hb); have n4_ := Aside0.mk (hbox); have n5_ := Aside0.mk ((by rw [hg]; exact (below_size (by repeat ((with_reducible exact HB.out)))) : w.heap.size ≤ gb387)); have n6_ := Aside0.mk ((by rw [hg]; exact (below_size (by repeat ((with_reducible exact HB.out)))) : w.heap.size ≤ gb387)); clear HO_9; clear HO_10; clear HO385; clear HB; have HO_9 := n0_; have HO_10 := n1_; have HO385 := n2_; have HB := n3_; have BK387 := n4_; have GW387 := n5_; have GE387 := n6_; clear n0_ n1_ n2_ n3_ n4_ n5_ n6_; clear hb hbox hg; have hcz46_0 : w45.cell? ⟨gb387, 0, none⟩ = some (.int .i64 0) := b41_ BK387.out 0 rfl; have hcz46_1 : w45.cell? ⟨gb387, 1, none⟩ = some (.int .i64 0) := b41_ BK387.out 1 rfl; have hcz46_2 : w45.cell? ⟨gb387, 2, none⟩ = some (.slice none 0 0) := b41_ BK387.out 2 rfl; have hfz46_0 := blk_frozen BK387.out 0; have hfz46_1 := blk_frozen BK387.out 1; have hfz46_2 := blk_frozen BK387.out 2; obtain ⟨Ao47, co47, eo47⟩ := Kd.R_slice HO385.out; subst eo47))
      go_roundg k2
      case measure => have := HK1.out; have := HK2.out; omega
      case rel => exact ⟨(x9_2), (x10_2), (x12_2), (wrap64 (x13_2 + 1)), (by rfl), (by rfl), H', ⟨by have := HK1.out; have := HK2.out; omega⟩, ⟨by (with_reducible repeat (first | apply Kd.R_alloc | apply Kd.R_drewN | apply Kd.R_drew)); exact Kd.R_mono (Kd.R_far (p := ⟨gb387, 2, none⟩) (Kd.R_far (p := ⟨gb387, 1, none⟩) (Kd.R_far (p := ⟨gb387, 0, none⟩) (Kd.R_types HO_9.out BK387.out (by decide)) (fun _ hk => by exact hk.2) (.int .i64 t381)) (fun _ hk => by exact hk.2) (.int .i64 t382)) (fun _ hk => by exact hk.2) (.slice Ao47 t383.length co47)) (fun _ hk => trivial)⟩, ⟨by (with_reducible repeat (first | apply Kd.S_alloc | apply Kd.S_drewN | apply Kd.S_drew)); exact Kd.S_mono (Kd.S_far (p := ⟨gb387, 2, none⟩) (Kd.S_far (p := ⟨gb387, 1, none⟩) (Kd.S_far (p := ⟨gb387, 0, none⟩) (Kd.S_mono HO_10.out (fun k_ hk => (⟨hk, hk.2⟩ : _ ∧ k_ ≠ gb387))) (fun _ hk => by exact hk.2) (.int .i64 t381)) (fun _ hk => by exact hk.2) (.int .i64 t382)) (fun _ hk => by exact hk.2) (.slice Ao47 t383.length co47)) (fun _ hk => trivial)⟩, ⟨by repeat ((with_reducible first | exact HB.out | refine below_set ?_ GE387.out))⟩⟩
     subst c18
     have H1 : (if x12_2 < 4 then ((spec_Meet.f k2 a1 ((rd_T26 l0 x13_2).f1) a3).bind fun t389 => (if t389 ≥ x11_1 then (if x9_2.length < 8796093022208 then ((spec_l13Without.f k2 x10_2 ((rd_T26 l0 x13_2).f0)).bind fun t395 => (spec_EvictPlan.l1 k2 l0 a1 a3 (x9_2 ++ [(⟨x11_1, (rd_T26 l0 x13_2).f0⟩ : S67)]) t395 x11_1 (wrap64 (x12_2 + 1)) (wrap64 (x13_2 + 1)))) else (none)) else (spec_EvictPlan.l1 k2 l0 a1 a3 x9_2 x10_2 x11_1 x12_2 (wrap64 (x13_2 + 1))))) else (spec_EvictPlan.l1 k2 l0 a1 a3 x9_2 x10_2 x11_1 x12_2 (wrap64 (x13_2 + 1)))) = some r := by rw [if_pos rfl] at H; exact H
     clear H
     have H := H1
     clear H1
     by_cases c19 : x12_2 < 4
     rotate_left
     ·
      rw [if_neg c19] at H
      have c19b0 : decide (x12_2 < 4) = false := decide_eq_false c19
      clear c19
      have H' := Aside0.mk H
      clear H
      have p380 : 0 ≤ (x13_2 : Int) := of_decide_eq_true (by (with_reducible assumption))
      have q380 : x13_2 < (l0.length : Int) := of_decide_eq_true (by (with_reducible assumption))
      obtain ⟨ad380, A380_2, c380_2, e380, hx380_0, hx380_1, hx380_2, hl380_2, hi380_2⟩ := at_T26 HR0.out x13_2 p380 q380
      cases e380
      replace hx380_0 := (HB.out.cell (World.block_lt_of_cell? w _ hx380_0)).trans hx380_0
      replace hx380_1 := (HB.out.cell (World.block_lt_of_cell? w _ hx380_1)).trans hx380_1
      replace hx380_2 := (HB.out.cell (World.block_lt_of_cell? w _ hx380_2)).trans hx380_2
      have HR380_2 := Aside0.mk hi380_2
      have HC380_2 := Aside0.mk hl380_2
      clear hi380_2 hl380_2
      replace p380 := eq_true p380
      replace q380 := eq_true q380
      obtain ⟨Ao38, co38, eo38⟩ := Kd.S_slice HO_10.out
      subst eo38
      go_wp2_with (first | ((with_reducible refine gate_callee (f := 10) rfl ?_); refine goesL_ (some 48) rfl rfl Try.func10 (by kernel_rfl) rfl #[.slice Ao38 x10_2.length co38, .int .i64 ((rd_T26 l0 x13_2).f0)] rfl (by (try simp only [List.map_toArray, List.map_cons, List.map_nil]); rfl) ?_; (with_reducible refine (spec_StashFind.calls k2 _ _ x10_2 ((rd_T26 l0 x13_2).f0) t381 t382 t383 true _ ?side1 ?side2 A17.out).mono ?_); (case side1 => repeat (exact (Kd.S_reads' HO_10.out).2.2)); (case side2 => exact (Kd.S_reads' HO_10.out).2.1); rintro e w39 ⟨v384, rfl, ho0, hb⟩; refine ⟨_, rfl, ?_⟩; have n0_ := Aside0.mk (Kd.R_below (by (with_reducible repeat (first | apply Kd.R_alloc | apply Kd.R_drewN | apply Kd.R_drew)); exact HO_9.out) hb); have n1_ := Aside0.mk (Kd.S_elder' (by (with_reducible repeat (first | apply Kd.S_alloc | apply Kd.S_drewN | apply Kd.S_drew)); exact HO_10.out) (Kd.R_base ho0) hb); have n2_ := Aside0.mk (Kd.R_lower ho0 (below_size (by repeat ((with_reducible exact HB.out))))); have n3_ := Aside0.mk (below_step (by repeat ((with_reducible exact HB.out))) hb); clear HO_9; clear HO_10; clear HB; have HO_9 := n0_; have HO_10 := n1_; have HO385 := n2_; have HB := n3_; clear n0_ n1_ n2_ n3_; (try clear hb); (try clear hb2); (try clear hk); (try clear hi); (try clear ho0)) | ((with_reducible refine gate_dst (N := 14) rfl ?_); refine box_event ?hg (N := 14) ?hd (cs := #[.int .i64 0, .int .i64 0, .slice none 0 0]) (t := 26) ?hr ?_; (case hd => rfl); (case hg => rfl); (case hr => (go_simp; done)); intro gb387 hg w40 hbox hb; have n0_ := Aside0.mk (Kd.R_below (by (with_reducible repeat (first | apply Kd.R_alloc | apply Kd.R_drewN | apply Kd.R_drew)); exact HO_9.out) hb); have n1_ := Aside0.mk (Kd.S_below (Kd.S_elderB (by (with_reducible repeat (first | apply Kd.S_alloc | apply Kd.S_drewN | apply Kd.S_drew)); exact HO_10.out) gb387 (Nat.le_of_eq hg.symm)) hb); have n2_ := Aside0.mk (Kd.R_below (by (with_reducible repeat (first | apply Kd.R_alloc | apply Kd.R_drewN | apply Kd.R_drew)); exact HO385.out) hb); have n3_ := Aside0.mk (below_step (by repeat ((with_reducible exact HB.out))) hb); have n4_ := Aside0.mk (hbox); have n5_ := Aside0.mk ((by rw [hg]; exact (below_size (by repeat ((with_reducible exact HB.out)))) : w.heap.size ≤ gb387)); have n6_ := Aside0.mk ((by rw [hg]; exact (below_size (by repeat ((with_reducible exact HB.out)))) : w.heap.size ≤ gb387)); clear HO_9; clear HO_10; clear HO385; clear HB; have HO_9 := n0_; have HO_10 := n1_; have HO385 := n2_; have HB := n3_; have BK387 := n4_; have GW387 := n5_; have GE387 := n6_; clear n0_ n1_ n2_ n3_ n4_ n5_ n6_; clear hb hbox hg; have hcz41_0 : w40.cell? ⟨gb387, 0, none⟩ = some (.int .i64 0) := b41_ BK387.out 0 rfl; have hcz41_1 : w40.cell? ⟨gb387, 1, none⟩ = some (.int .i64 0) := b41_ BK387.out 1 rfl; have hcz41_2 : w40.cell? ⟨gb387, 2, none⟩ = some (.slice none 0 0) := b41_ BK387.out 2 rfl; have hfz41_0 := blk_frozen BK387.out 0; have hfz41_1 := blk_frozen BK387.out 1; have hfz41_2 := blk_frozen BK387.out 2; obtain ⟨Ao42, co42, eo42⟩ := Kd.R_slice HO385.out; subst eo42))
      go_roundg k2
      case measure => have := HK1.out; have := HK2.out; omega
      case rel => exact ⟨(x9_2), (x10_2), (x12_2), (wrap64 (x13_2 + 1)), (by rfl), (by rfl), H', ⟨by have := HK1.out; have := HK2.out; omega⟩, ⟨by (with_reducible repeat (first | apply Kd.R_alloc | apply Kd.R_drewN | apply Kd.R_drew)); exact Kd.R_mono (Kd.R_far (p := ⟨gb387, 2, none⟩) (Kd.R_far (p := ⟨gb387, 1, none⟩) (Kd.R_far (p := ⟨gb387, 0, none⟩) (Kd.R_types HO_9.out BK387.out (by decide)) (fun _ hk => by exact hk.2) (.int .i64 t381)) (fun _ hk => by exact hk.2) (.int .i64 t382)) (fun _ hk => by exact hk.2) (.slice Ao42 t383.length co42)) (fun _ hk => trivial)⟩, ⟨by (with_reducible repeat (first | apply Kd.S_alloc | apply Kd.S_drewN | apply Kd.S_drew)); exact Kd.S_mono (Kd.S_far (p := ⟨gb387, 2, none⟩) (Kd.S_far (p := ⟨gb387, 1, none⟩) (Kd.S_far (p := ⟨gb387, 0, none⟩) (Kd.S_mono HO_10.out (fun k_ hk => (⟨hk, hk.2⟩ : _ ∧ k_ ≠ gb387))) (fun _ hk => by exact hk.2) (.int .i64 t381)) (fun _ hk => by exact hk.2) (.int .i64 t382)) (fun _ hk => by exact hk.2) (.slice Ao42 t383.length co42)) (fun _ hk => trivial)⟩, ⟨by repeat ((with_reducible first | exact HB.out | refine below_set ?_ GE387.out))⟩⟩
     rw [if_pos c19] at H
     have c19b0 : decide (x12_2 < 4) = true := decide_eq_true c19
     clear c19
     replace H := Option.bind_eq_some_iff.mp H
     obtain ⟨t389, A200, H⟩ := H
     replace H : (if t389 ≥ x11_1 then (if x9_2.length < 8796093022208 then ((spec_l13Without.f k2 x10_2 ((rd_T26 l0 x13_2).f0)).bind fun t395 => (spec_EvictPlan.l1 k2 l0 a1 a3 (x9_2 ++ [(⟨x11_1, (rd_T26 l0 x13_2).f0⟩ : S67)]) t395 x11_1 (wrap64 (x12_2 + 1)) (wrap64 (x13_2 + 1)))) else (none)) else (spec_EvictPlan.l1 k2 l0 a1 a3 x9_2 x10_2 x11_1 x12_2 (wrap64 (x13_2 + 1)))) = some r := H
     have A20 := Aside0.mk A200
     clear A200
     by_cases c21 : t389 ≥ x11_1
     rotate_left
     ·
      rw [if_neg c21] at H
      have c21b0 : decide (x11_1 ≤ t389) = false := decide_eq_false c21
      clear c21
      have H' := Aside0.mk H
      clear H
      have p380 : 0 ≤ (x13_2 : Int) := of_decide_eq_true (by (with_reducible assumption))
      have q380 : x13_2 < (l0.length : Int) := of_decide_eq_true (by (with_reducible assumption))
      obtain ⟨ad380, A380_2, c380_2, e380, hx380_0, hx380_1, hx380_2, hl380_2, hi380_2⟩ := at_T26 HR0.out x13_2 p380 q380
      cases e380
      replace hx380_0 := (HB.out.cell (World.block_lt_of_cell? w _ hx380_0)).trans hx380_0
      replace hx380_1 := (HB.out.cell (World.block_lt_of_cell? w _ hx380_1)).trans hx380_1
      replace hx380_2 := (HB.out.cell (World.block_lt_of_cell? w _ hx380_2)).trans hx380_2
      have HR380_2 := Aside0.mk hi380_2
      have HC380_2 := Aside0.mk hl380_2
      clear hi380_2 hl380_2
      replace p380 := eq_true p380
      replace q380 := eq_true q380
      obtain ⟨Ao32, co32, eo32⟩ := Kd.S_slice HO_10.out
      subst eo32
      go_wp2_with (first | ((with_reducible refine gate_callee (f := 10) rfl ?_); refine goesL_ (some 48) rfl rfl Try.func10 (by kernel_rfl) rfl #[.slice Ao32 x10_2.length co32, .int .i64 ((rd_T26 l0 x13_2).f0)] rfl (by (try simp only [List.map_toArray, List.map_cons, List.map_nil]); rfl) ?_; (with_reducible refine (spec_StashFind.calls k2 _ _ x10_2 ((rd_T26 l0 x13_2).f0) t381 t382 t383 true _ ?side1 ?side2 A17.out).mono ?_); (case side1 => repeat (exact (Kd.S_reads' HO_10.out).2.2)); (case side2 => exact (Kd.S_reads' HO_10.out).2.1); rintro e w33 ⟨v384, rfl, ho0, hb⟩; refine ⟨_, rfl, ?_⟩; have n0_ := Aside0.mk (Kd.R_below (by (with_reducible repeat (first | apply Kd.R_alloc | apply Kd.R_drewN | apply Kd.R_drew)); exact HO_9.out) hb); have n1_ := Aside0.mk (Kd.S_elder' (by (with_reducible repeat (first | apply Kd.S_alloc | apply Kd.S_drewN | apply Kd.S_drew)); exact HO_10.out) (Kd.R_base ho0) hb); have n2_ := Aside0.mk (Kd.R_lower ho0 (below_size (by repeat ((with_reducible exact HB.out))))); have n3_ := Aside0.mk (below_step (by repeat ((with_reducible exact HB.out))) hb); clear HO_9; clear HO_10; clear HB; have HO_9 := n0_; have HO_10 := n1_; have HO385 := n2_; have HB := n3_; clear n0_ n1_ n2_ n3_; (try clear hb); (try clear hb2); (try clear hk); (try clear hi); (try clear ho0)) | ((with_reducible refine gate_dst (N := 14) rfl ?_); refine box_event ?hg (N := 14) ?hd (cs := #[.int .i64 0, .int .i64 0, .slice none 0 0]) (t := 26) ?hr ?_; (case hd => rfl); (case hg => rfl); (case hr => (go_simp; done)); intro gb387 hg w34 hbox hb; have n0_ := Aside0.mk (Kd.R_below (by (with_reducible repeat (first | apply Kd.R_alloc | apply Kd.R_drewN | apply Kd.R_drew)); exact HO_9.out) hb); have n1_ := Aside0.mk (Kd.S_below (Kd.S_elderB (by (with_reducible repeat (first | apply Kd.S_alloc | apply Kd.S_drewN | apply Kd.S_drew)); exact HO_10.out) gb387 (Nat.le_of_eq hg.symm)) hb); have n2_ := Aside0.mk (Kd.R_below (by (with_reducible repeat (first | apply Kd.R_alloc | apply Kd.R_drewN | apply Kd.R_drew)); exact HO385.out) hb); have n3_ := Aside0.mk (below_step (by repeat ((with_reducible exact HB.out))) hb); have n4_ := Aside0.mk (hbox); have n5_ := Aside0.mk ((by rw [hg]; exact (below_size (by repeat ((with_reducible exact HB.out)))) : w.heap.size ≤ gb387)); have n6_ := Aside0.mk ((by rw [hg]; exact (below_size (by repeat ((with_reducible exact HB.out)))) : w.heap.size ≤ gb387)); clear HO_9; clear HO_10; clear HO385; clear HB; have HO_9 := n0_; have HO_10 := n1_; have HO385 := n2_; have HB := n3_; have BK387 := n4_; have GW387 := n5_; have GE387 := n6_; clear n0_ n1_ n2_ n3_ n4_ n5_ n6_; clear hb hbox hg; have hcz35_0 : w34.cell? ⟨gb387, 0, none⟩ = some (.int .i64 0) := b41_ BK387.out 0 rfl; have hcz35_1 : w34.cell? ⟨gb387, 1, none⟩ = some (.int .i64 0) := b41_ BK387.out 1 rfl; have hcz35_2 : w34.cell? ⟨gb387, 2, none⟩ = some (.slice none 0 0) := b41_ BK387.out 2 rfl; have hfz35_0 := blk_frozen BK387.out 0; have hfz35_1 := blk_frozen BK387.out 1; have hfz35_2 := blk_frozen BK387.out 2; obtain ⟨Ao36, co36, eo36⟩ := Kd.R_slice HO385.out; subst eo36; have p388 : 0 ≤ (x13_2 : Int) := of_decide_eq_true (by (with_reducible assumption)); have q388 : x13_2 < (l0.length : Int) := of_decide_eq_true (by (with_reducible assumption)); obtain ⟨ad388, A388_2, c388_2, e388, hx388_0, hx388_1, hx388_2, hl388_2, hi388_2⟩ := at_T26 HR0.out x13_2 p388 q388; obtain rfl : ad380 = ad388 := (by injection e388); have hn388_0 : ad380.block ≠ gb387 := Nat.ne_of_lt (Nat.lt_of_lt_of_le (by have := World.block_lt_of_cell? _ _ hx388_0; rwa [add_block] at this) GW387.out); have hn388_1 : ad380.block ≠ gb387 := Nat.ne_of_lt (Nat.lt_of_lt_of_le (by have := World.block_lt_of_cell? _ _ hx388_0; rwa [add_block] at this) GW387.out); have hn388_2 : ad380.block ≠ gb387 := Nat.ne_of_lt (Nat.lt_of_lt_of_le (by have := World.block_lt_of_cell? _ _ hx388_0; rwa [add_block] at this) GW387.out); replace hx388_0 := (HB.out.cell (World.block_lt_of_cell? w _ hx388_0)).trans hx388_0; replace hx388_1 := (HB.out.cell (World.block_lt_of_cell? w _ hx388_1)).trans hx388_1; replace hx388_2 := (HB.out.cell (World.block_lt_of_cell? w _ hx388_2)).trans hx388_2; have HR388_2 := Aside0.mk hi388_2; have HC388_2 := Aside0.mk hl388_2; clear hi388_2 hl388_2; replace hx388_0 := (cell_far (p := ⟨gb387, 0, none⟩) (by (rw [add_block]; exact hn388_0)) (.int .i64 t381)).trans hx388_0; replace hx388_1 := (cell_far (p := ⟨gb387, 0, none⟩) (by (rw [add_block]; exact hn388_0)) (.int .i64 t381)).trans hx388_1; replace hx388_2 := (cell_far (p := ⟨gb387, 0, none⟩) (by (rw [add_block]; exact hn388_0)) (.int .i64 t381)).trans hx388_2; replace hx388_0 := (cell_far (p := ⟨gb387, 1, none⟩) (by (rw [add_block]; exact hn388_1)) (.int .i64 t382)).trans hx388_0; replace hx388_1 := (cell_far (p := ⟨gb387, 1, none⟩) (by (rw [add_block]; exact hn388_1)) (.int .i64 t382)).trans hx388_1; replace hx388_2 := (cell_far (p := ⟨gb387, 1, none⟩) (by (rw [add_block]; exact hn388_1)) (.int .i64 t382)).trans hx388_2; replace hx388_0 := (cell_far (p := ⟨gb387, 2, none⟩) (by (rw [add_block]; exact hn388_2)) (.slice Ao36 t383.length co36)).trans hx388_0; replace hx388_1 := (cell_far (p := ⟨gb387, 2, none⟩) (by (rw [add_block]; exact hn388_2)) (.slice Ao36 t383.length co36)).trans hx388_1; replace hx388_2 := (cell_far (p := ⟨gb387, 2, none⟩) (by (rw [add_block]; exact hn388_2)) (.slice Ao36 t383.length co36)).trans hx388_2; clear hn388_0; clear hn388_1; clear hn388_2; replace p388 := eq_true p388; replace q388 := eq_true q388) | (go_at_call 44; (with_reducible refine (spec_Meet.calls k2 a1 ((rd_T26 l0 x13_2).f1) a3 t389 _ A20.out).mono ?_); rintro e w37 ⟨rfl, hb⟩; have n0_ := Aside0.mk (Kd.R_below (by (with_reducible repeat (first | apply Kd.R_alloc | apply Kd.R_drewN | apply Kd.R_drew)); exact (Kd.R_mono (Kd.R_far (p := ⟨gb387, 2, none⟩) (Kd.R_far (p := ⟨gb387, 1, none⟩) (Kd.R_far (p := ⟨gb387, 0, none⟩) (Kd.R_types HO_9.out BK387.out (by decide)) (fun _ hk => by exact hk.2) (.int .i64 t381)) (fun _ hk => by exact hk.2) (.int .i64 t382)) (fun _ hk => by exact hk.2) (.slice Ao36 t383.length co36)) (fun _ h_ => h_.1))) hb); have n1_ := Aside0.mk (Kd.S_below (by (with_reducible repeat (first | apply Kd.S_alloc | apply Kd.S_drewN | apply Kd.S_drew)); exact (Kd.S_mono (Kd.S_far (p := ⟨gb387, 2, none⟩) (Kd.S_far (p := ⟨gb387, 1, none⟩) (Kd.S_far (p := ⟨gb387, 0, none⟩) (Kd.S_mono HO_10.out (fun k_ hk => (⟨hk, hk.2⟩ : _ ∧ k_ ≠ gb387))) (fun _ hk => by exact hk.2) (.int .i64 t381)) (fun _ hk => by exact hk.2) (.int .i64 t382)) (fun _ hk => by exact hk.2) (.slice Ao36 t383.length co36)) (fun _ h_ => h_.1))) hb); have n2_ := Aside0.mk (Kd.R_below (by (with_reducible repeat (first | apply Kd.R_alloc | apply Kd.R_drewN | apply Kd.R_drew)); exact (Kd.R_mono (Kd.R_far (p := ⟨gb387, 2, none⟩) (Kd.R_far (p := ⟨gb387, 1, none⟩) (Kd.R_far (p := ⟨gb387, 0, none⟩) (Kd.R_types HO385.out BK387.out (by decide)) (fun _ hk => by exact hk.2) (.int .i64 t381)) (fun _ hk => by exact hk.2) (.int .i64 t382)) (fun _ hk => by exact hk.2) (.slice Ao36 t383.length co36)) (fun _ h_ => h_.1))) hb); have n3_ := Aside0.mk (blk_below (g := gb387) (o := .cells #[.int .i64 t381, .int .i64 t382, .slice Ao36 t383.length co36] 26 (0, 0)) (by (with_reducible repeat (first | refine blk_drewN ?_ _ | refine blk_drew ?_ | refine blk_alloc ?_ _)); refine blk_put (cs := #[.int .i64 t381, .int .i64 t382, .slice none 0 0]) ?_ 2 _ rfl; (with_reducible repeat (first | refine blk_drewN ?_ _ | refine blk_drew ?_ | refine blk_alloc ?_ _)); refine blk_put (cs := #[.int .i64 t381, .int .i64 0, .slice none 0 0]) ?_ 1 _ rfl; (with_reducible repeat (first | refine blk_drewN ?_ _ | refine blk_drew ?_ | refine blk_alloc ?_ _)); refine blk_put (cs := #[.int .i64 0, .int .i64 0, .slice none 0 0]) ?_ 0 _ rfl; (with_reducible repeat (first | refine blk_drewN ?_ _ | refine blk_drew ?_ | refine blk_alloc ?_ _)); exact BK387.out) hb); have n4_ := Aside0.mk (below_step (by repeat ((with_reducible first | exact HB.out | refine below_set ?_ GE387.out))) hb); clear HO_9; clear HO_10; clear HO385; clear BK387; clear HB; have HO_9 := n0_; have HO_10 := n1_; have HO385 := n2_; have BK387 := n3_; have HB := n4_; clear n0_ n1_ n2_ n3_ n4_; (try clear hb); (try clear hb2); (try clear hk); (try clear hi)))
      go_roundg k2
      case measure => have := HK1.out; have := HK2.out; omega
      case rel => exact ⟨(x9_2), (x10_2), (x12_2), (wrap64 (x13_2 + 1)), (by rfl), (by rfl), H', ⟨by have := HK1.out; have := HK2.out; omega⟩, ⟨by (with_reducible repeat (first | apply Kd.R_alloc | apply Kd.R_drewN | apply Kd.R_drew)); exact HO_9.out⟩, ⟨by (with_reducible repeat (first | apply Kd.S_alloc | apply Kd.S_drewN | apply Kd.S_drew)); exact Kd.S_mono HO_10.out (fun _ hk => trivial)⟩, ⟨by repeat ((with_reducible exact HB.out))⟩⟩
     rw [if_pos c21] at H
     have c21b0 : decide (x11_1 ≤ t389) = true := decide_eq_true c21
     clear c21
     by_cases c22 : x9_2.length < 8796093022208
     rotate_left
     ·
      rw [if_neg c22] at H
      exact absurd H (by simp)
     rw [if_pos c22] at H
     have LMc22 := Aside0.mk c22
     clear c22
     obtain ⟨y391, hy391⟩ : ∃ y_ : List (S67), y_ = (x9_2 ++ [(⟨x11_1, (rd_T26 l0 x13_2).f0⟩ : S67)]) := ⟨_, rfl⟩
     replace H : ((spec_l13Without.f k2 x10_2 ((rd_T26 l0 x13_2).f0)).bind fun t395 => (spec_EvictPlan.l1 k2 l0 a1 a3 y391 t395 x11_1 (wrap64 (x12_2 + 1)) (wrap64 (x13_2 + 1)))) = some r := by (rw [hy391]; with_reducible exact H)
     have Ny391 := Aside0.mk hy391
     clear hy391
     replace H := Option.bind_eq_some_iff.mp H
     obtain ⟨t395, A230, H⟩ := H
     replace H : (spec_EvictPlan.l1 k2 l0 a1 a3 y391 t395 x11_1 (wrap64 (x12_2 + 1)) (wrap64 (x13_2 + 1))) = some r := H
     have A23 := Aside0.mk A230
     clear A230
     have H' := Aside0.mk H
     clear H
     have p380 : 0 ≤ (x13_2 : Int) := of_decide_eq_true (by (with_reducible assumption))
     have q380 : x13_2 < (l0.length : Int) := of_decide_eq_true (by (with_reducible assumption))
     obtain ⟨ad380, A380_2, c380_2, e380, hx380_0, hx380_1, hx380_2, hl380_2, hi380_2⟩ := at_T26 HR0.out x13_2 p380 q380
     cases e380
     replace hx380_0 := (HB.out.cell (World.block_lt_of_cell? w _ hx380_0)).trans hx380_0
     replace hx380_1 := (HB.out.cell (World.block_lt_of_cell? w _ hx380_1)).trans hx380_1
     replace hx380_2 := (HB.out.cell (World.block_lt_of_cell? w _ hx380_2)).trans hx380_2
     have HR380_2 := Aside0.mk hi380_2
     have HC380_2 := Aside0.mk hl380_2
     clear hi380_2 hl380_2
     replace p380 := eq_true p380
     replace q380 := eq_true q380
     obtain ⟨Ao24, co24, eo24⟩ := Kd.S_slice HO_10.out
     subst eo24
     go_wp2_with (first | ((with_reducible refine gate_callee (f := 10) rfl ?_); refine goesL_ (some 48) rfl rfl Try.func10 (by kernel_rfl) rfl #[.slice Ao24 x10_2.length co24, .int .i64 ((rd_T26 l0 x13_2).f0)] rfl (by (try simp only [List.map_toArray, List.map_cons, List.map_nil]); rfl) ?_; (with_reducible refine (spec_StashFind.calls k2 _ _ x10_2 ((rd_T26 l0 x13_2).f0) t381 t382 t383 true _ ?side1 ?side2 A17.out).mono ?_); (case side1 => repeat (exact (Kd.S_reads' HO_10.out).2.2)); (case side2 => exact (Kd.S_reads' HO_10.out).2.1); rintro e w25 ⟨v384, rfl, ho0, hb⟩; refine ⟨_, rfl, ?_⟩; have n0_ := Aside0.mk (Kd.R_below (by (with_reducible repeat (first | apply Kd.R_alloc | apply Kd.R_drewN | apply Kd.R_drew)); exact HO_9.out) hb); have n1_ := Aside0.mk (Kd.S_elder' (by (with_reducible repeat (first | apply Kd.S_alloc | apply Kd.S_drewN | apply Kd.S_drew)); exact HO_10.out) (Kd.R_base ho0) hb); have n2_ := Aside0.mk (Kd.R_lower ho0 (below_size (by repeat ((with_reducible exact HB.out))))); have n3_ := Aside0.mk (below_step (by repeat ((with_reducible exact HB.out))) hb); clear HO_9; clear HO_10; clear HB; have HO_9 := n0_; have HO_10 := n1_; have HO385 := n2_; have HB := n3_; clear n0_ n1_ n2_ n3_; (try clear hb); (try clear hb2); (try clear hk); (try clear hi); (try clear ho0)) | ((with_reducible refine gate_dst (N := 14) rfl ?_); refine box_event ?hg (N := 14) ?hd (cs := #[.int .i64 0, .int .i64 0, .slice none 0 0]) (t := 26) ?hr ?_; (case hd => rfl); (case hg => rfl); (case hr => (go_simp; done)); intro gb387 hg w26 hbox hb; have n0_ := Aside0.mk (Kd.R_below (by (with_reducible repeat (first | apply Kd.R_alloc | apply Kd.R_drewN | apply Kd.R_drew)); exact HO_9.out) hb); have n1_ := Aside0.mk (Kd.S_below (Kd.S_elderB (by (with_reducible repeat (first | apply Kd.S_alloc | apply Kd.S_drewN | apply Kd.S_drew)); exact HO_10.out) gb387 (Nat.le_of_eq hg.symm)) hb); have n2_ := Aside0.mk (Kd.R_below (by (with_reducible repeat (first | apply Kd.R_alloc | apply Kd.R_drewN | apply Kd.R_drew)); exact HO385.out) hb); have n3_ := Aside0.mk (below_step (by repeat ((with_reducible exact HB.out))) hb); have n4_ := Aside0.mk (hbox); have n5_ := Aside0.mk ((by rw [hg]; exact (below_size (by repeat ((with_reducible exact HB.out)))) : w.heap.size ≤ gb387)); have n6_ := Aside0.mk ((by rw [hg]; exact (below_size (by repeat ((with_reducible exact HB.out)))) : w.heap.size ≤ gb387)); clear HO_9; clear HO_10; clear HO385; clear HB; have HO_9 := n0_; have HO_10 := n1_; have HO385 := n2_; have HB := n3_; have BK387 := n4_; have GW387 := n5_; have GE387 := n6_; clear n0_ n1_ n2_ n3_ n4_ n5_ n6_; clear hb hbox hg; have hcz27_0 : w26.cell? ⟨gb387, 0, none⟩ = some (.int .i64 0) := b41_ BK387.out 0 rfl; have hcz27_1 : w26.cell? ⟨gb387, 1, none⟩ = some (.int .i64 0) := b41_ BK387.out 1 rfl; have hcz27_2 : w26.cell? ⟨gb387, 2, none⟩ = some (.slice none 0 0) := b41_ BK387.out 2 rfl; have hfz27_0 := blk_frozen BK387.out 0; have hfz27_1 := blk_frozen BK387.out 1; have hfz27_2 := blk_frozen BK387.out 2; obtain ⟨Ao28, co28, eo28⟩ := Kd.R_slice HO385.out; subst eo28; have p388 : 0 ≤ (x13_2 : Int) := of_decide_eq_true (by (with_reducible assumption)); have q388 : x13_2 < (l0.length : Int) := of_decide_eq_true (by (with_reducible assumption)); obtain ⟨ad388, A388_2, c388_2, e388, hx388_0, hx388_1, hx388_2, hl388_2, hi388_2⟩ := at_T26 HR0.out x13_2 p388 q388; obtain rfl : ad380 = ad388 := (by injection e388); have hn388_0 : ad380.block ≠ gb387 := Nat.ne_of_lt (Nat.lt_of_lt_of_le (by have := World.block_lt_of_cell? _ _ hx388_0; rwa [add_block] at this) GW387.out); have hn388_1 : ad380.block ≠ gb387 := Nat.ne_of_lt (Nat.lt_of_lt_of_le (by have := World.block_lt_of_cell? _ _ hx388_0; rwa [add_block] at this) GW387.out); have hn388_2 : ad380.block ≠ gb387 := Nat.ne_of_lt (Nat.lt_of_lt_of_le (by have := World.block_lt_of_cell? _ _ hx388_0; rwa [add_block] at this) GW387.out); replace hx388_0 := (HB.out.cell (World.block_lt_of_cell? w _ hx388_0)).trans hx388_0; replace hx388_1 := (HB.out.cell (World.block_lt_of_cell? w _ hx388_1)).trans hx388_1; replace hx388_2 := (HB.out.cell (World.block_lt_of_cell? w _ hx388_2)).trans hx388_2; have HR388_2 := Aside0.mk hi388_2; have HC388_2 := Aside0.mk hl388_2; clear hi388_2 hl388_2; replace hx388_0 := (cell_far (p := ⟨gb387, 0, none⟩) (by (rw [add_block]; exact hn388_0)) (.int .i64 t381)).trans hx388_0; replace hx388_1 := (cell_far (p := ⟨gb387, 0, none⟩) (by (rw [add_block]; exact hn388_0)) (.int .i64 t381)).trans hx388_1; replace hx388_2 := (cell_far (p := ⟨gb387, 0, none⟩) (by (rw [add_block]; exact hn388_0)) (.int .i64 t381)).trans hx388_2; replace hx388_0 := (cell_far (p := ⟨gb387, 1, none⟩) (by (rw [add_block]; exact hn388_1)) (.int .i64 t382)).trans hx388_0; replace hx388_1 := (cell_far (p := ⟨gb387, 1, none⟩) (by (rw [add_block]; exact hn388_1)) (.int .i64 t382)).trans hx388_1; replace hx388_2 := (cell_far (p := ⟨gb387, 1, none⟩) (by (rw [add_block]; exact hn388_1)) (.int .i64 t382)).trans hx388_2; replace hx388_0 := (cell_far (p := ⟨gb387, 2, none⟩) (by (rw [add_block]; exact hn388_2)) (.slice Ao28 t383.length co28)).trans hx388_0; replace hx388_1 := (cell_far (p := ⟨gb387, 2, none⟩) (by (rw [add_block]; exact hn388_2)) (.slice Ao28 t383.length co28)).trans hx388_1; replace hx388_2 := (cell_far (p := ⟨gb387, 2, none⟩) (by (rw [add_block]; exact hn388_2)) (.slice Ao28 t383.length co28)).trans hx388_2; clear hn388_0; clear hn388_1; clear hn388_2; replace p388 := eq_true p388; replace q388 := eq_true q388) | (go_at_call 44; (with_reducible refine (spec_Meet.calls k2 a1 ((rd_T26 l0 x13_2).f1) a3 t389 _ A20.out).mono ?_); rintro e w29 ⟨rfl, hb⟩; have n0_ := Aside0.mk (Kd.R_below (by (with_reducible repeat (first | apply Kd.R_alloc | apply Kd.R_drewN | apply Kd.R_drew)); exact (Kd.R_mono (Kd.R_far (p := ⟨gb387, 2, none⟩) (Kd.R_far (p := ⟨gb387, 1, none⟩) (Kd.R_far (p := ⟨gb387, 0, none⟩) (Kd.R_types HO_9.out BK387.out (by decide)) (fun _ hk => by exact hk.2) (.int .i64 t381)) (fun _ hk => by exact hk.2) (.int .i64 t382)) (fun _ hk => by exact hk.2) (.slice Ao28 t383.length co28)) (fun _ h_ => h_.1))) hb); have n1_ := Aside0.mk (Kd.S_below (by (with_reducible repeat (first | apply Kd.S_alloc | apply Kd.S_drewN | apply Kd.S_drew)); exact (Kd.S_mono (Kd.S_far (p := ⟨gb387, 2, none⟩) (Kd.S_far (p := ⟨gb387, 1, none⟩) (Kd.S_far (p := ⟨gb387, 0, none⟩) (Kd.S_mono HO_10.out (fun k_ hk => (⟨hk, hk.2⟩ : _ ∧ k_ ≠ gb387))) (fun _ hk => by exact hk.2) (.int .i64 t381)) (fun _ hk => by exact hk.2) (.int .i64 t382)) (fun _ hk => by exact hk.2) (.slice Ao28 t383.length co28)) (fun _ h_ => h_.1))) hb); have n2_ := Aside0.mk (Kd.R_below (by (with_reducible repeat (first | apply Kd.R_alloc | apply Kd.R_drewN | apply Kd.R_drew)); exact (Kd.R_mono (Kd.R_far (p := ⟨gb387, 2, none⟩) (Kd.R_far (p := ⟨gb387, 1, none⟩) (Kd.R_far (p := ⟨gb387, 0, none⟩) (Kd.R_types HO385.out BK387.out (by decide)) (fun _ hk => by exact hk.2) (.int .i64 t381)) (fun _ hk => by exact hk.2) (.int .i64 t382)) (fun _ hk => by exact hk.2) (.slice Ao28 t383.length co28)) (fun _ h_ => h_.1))) hb); have n3_ := Aside0.mk (blk_below (g := gb387) (o := .cells #[.int .i64 t381, .int .i64 t382, .slice Ao28 t383.length co28] 26 (0, 0)) (by (with_reducible repeat (first | refine blk_drewN ?_ _ | refine blk_drew ?_ | refine blk_alloc ?_ _)); refine blk_put (cs := #[.int .i64 t381, .int .i64 t382, .slice none 0 0]) ?_ 2 _ rfl; (with_reducible repeat (first | refine blk_drewN ?_ _ | refine blk_drew ?_ | refine blk_alloc ?_ _)); refine blk_put (cs := #[.int .i64 t381, .int .i64 0, .slice none 0 0]) ?_ 1 _ rfl; (with_reducible repeat (first | refine blk_drewN ?_ _ | refine blk_drew ?_ | refine blk_alloc ?_ _)); refine blk_put (cs := #[.int .i64 0, .int .i64 0, .slice none 0 0]) ?_ 0 _ rfl; (with_reducible repeat (first | refine blk_drewN ?_ _ | refine blk_drew ?_ | refine blk_alloc ?_ _)); exact BK387.out) hb); have n4_ := Aside0.mk (below_step (by repeat ((with_reducible first | exact HB.out | refine below_set ?_ GE387.out))) hb); clear HO_9; clear HO_10; clear HO385; clear BK387; clear HB; have HO_9 := n0_; have HO_10 := n1_; have HO385 := n2_; have BK387 := n3_; have HB := n4_; clear n0_ n1_ n2_ n3_ n4_; (try clear hb); (try clear hb2); (try clear hk); (try clear hi); have p390 : 0 ≤ (x13_2 : Int) := of_decide_eq_true (by (with_reducible assumption)); have q390 : x13_2 < (l0.length : Int) := of_decide_eq_true (by (with_reducible assumption)); obtain ⟨ad390, A390_2, c390_2, e390, hx390_0, hx390_1, hx390_2, hl390_2, hi390_2⟩ := at_T26 HR0.out x13_2 p390 q390; obtain rfl : ad380 = ad390 := (by injection e390); replace hx390_0 := (HB.out.cell (World.block_lt_of_cell? w _ hx390_0)).trans hx390_0; replace hx390_1 := (HB.out.cell (World.block_lt_of_cell? w _ hx390_1)).trans hx390_1; replace hx390_2 := (HB.out.cell (World.block_lt_of_cell? w _ hx390_2)).trans hx390_2; have HR390_2 := Aside0.mk hi390_2; have HC390_2 := Aside0.mk hl390_2; clear hi390_2 hl390_2; replace p390 := eq_true p390; replace q390 := eq_true q390) | ((with_reducible refine gate_builtin (b := .append) (xs := #[.tmp 68, .tmp 76]) rfl ?_); at_builtin; refine Kd.R_append k67 (w0 := w) w.heap.size rfl (.tmp 68) (.tmp 76) 61 67 (.agg #[(.int .i64 0), (.int .i64 0)]) 16 rfl Try.underlying61 info67 rfl (by decide) (by omega) u9 x9_2 (⟨x11_1, (rd_T26 l0 x13_2).f0⟩ : S67) [.int .i64 x11_1, .int .i64 ((rd_T26 l0 x13_2).f0)] (fun _ => True) (fun _ => False) rfl rfl ?aP (fun _ hk => hk.elim) ?aF ?aO ?aB ?aS ?aL ?_; (case aP => exact k67_mkM _ _ _ (⟨x11_1, (rd_T26 l0 x13_2).f0⟩ : S67)); (case aB => exact (by repeat ((with_reducible exact HB.out)))); (case aF => exact (fun _ _ => trivial)); (case aO => exact (by (with_reducible repeat (first | apply Kd.R_alloc | apply Kd.R_drewN | apply Kd.R_drew)); exact HO_9.out)); (case aS => exact (below_size (by repeat ((with_reducible exact HB.out))))); (case aL => have := LMc22.out; omega); intro v392 w30 ho hb hg hat; rw [← Ny391.out] at ho; have n0_ := Aside0.mk (Kd.S_over' (by (with_reducible repeat (first | apply Kd.S_alloc | apply Kd.S_drewN | apply Kd.S_drew)); exact HO_10.out) (Kd.R_typed (by (with_reducible repeat (first | apply Kd.R_alloc | apply Kd.R_drewN | apply Kd.R_drew)); exact HO_9.out)) (by decide) hg); have n1_ := Aside0.mk (Kd.R_over' (by (with_reducible repeat (first | apply Kd.R_alloc | apply Kd.R_drewN | apply Kd.R_drew)); exact HO385.out) (Kd.R_typed (by (with_reducible repeat (first | apply Kd.R_alloc | apply Kd.R_drewN | apply Kd.R_drew)); exact HO_9.out)) (by decide) hg); have n2_ := Aside0.mk (blk_grown (g := gb387) (o := .cells #[.int .i64 t381, .int .i64 t382, .slice Ao28 t383.length co28] 26 (0, 0)) (by (with_reducible repeat (first | refine blk_drewN ?_ _ | refine blk_drew ?_ | refine blk_alloc ?_ _)); exact BK387.out) hg (Kd.R_ne HO_9.out BK387.out (by decide))); have n3_ := Aside0.mk (hb); have n4_ := Aside0.mk (ho); clear HO_10; clear HO385; clear BK387; clear HB; clear HO_9; have HO_10 := n0_; have HO385 := n1_; have BK387 := n2_; have HB := n3_; have HO393 := n4_; clear n0_ n1_ n2_ n3_ n4_; clear ho hb hg hat; have p394 : 0 ≤ (x13_2 : Int) := of_decide_eq_true (by (with_reducible assumption)); have q394 : x13_2 < (l0.length : Int) := of_decide_eq_true (by (with_reducible assumption)); obtain ⟨ad394, A394_2, c394_2, e394, hx394_0, hx394_1, hx394_2, hl394_2, hi394_2⟩ := at_T26 HR0.out x13_2 p394 q394; obtain rfl : ad380 = ad394 := (by injection e394); replace hx394_0 := (HB.out.cell (World.block_lt_of_cell? w _ hx394_0)).trans hx394_0; replace hx394_1 := (HB.out.cell (World.block_lt_of_cell? w _ hx394_1)).trans hx394_1; replace hx394_2 := (HB.out.cell (World.block_lt_of_cell? w _ hx394_2)).trans hx394_2; have HR394_2 := Aside0.mk hi394_2; have HC394_2 := Aside0.mk hl394_2; clear hi394_2 hl394_2; replace p394 := eq_true p394; replace q394 := eq_true q394) | ((with_reducible refine gate_callee (f := 65) rfl ?_); refine goesL_ (some 84) rfl rfl Try.func65 (by kernel_rfl) rfl #[.slice Ao24 x10_2.length co24, .int .i64 ((rd_T26 l0 x13_2).f0)] rfl (by (try simp only [List.map_toArray, List.map_cons, List.map_nil]); rfl) ?_; (with_reducible refine (spec_l13Without.calls k2 _ _ x10_2 ((rd_T26 l0 x13_2).f0) t395 _ ?side1 ?side2 A23.out).mono ?_); (case side1 => repeat (exact (Kd.S_reads' HO_10.out).2.2)); (case side2 => exact (Kd.S_reads' HO_10.out).2.1); rintro e w31 ⟨v396, rfl, ho0, hb⟩; refine ⟨_, rfl, ?_⟩; have n0_ := Aside0.mk (Kd.S_elder' (by (with_reducible repeat (first | apply Kd.S_alloc | apply Kd.S_drewN | apply Kd.S_drew)); exact HO_10.out) (Kd.S_base ho0) hb); have n1_ := Aside0.mk (Kd.R_below (by (with_reducible repeat (first | apply Kd.R_alloc | apply Kd.R_drewN | apply Kd.R_drew)); exact HO385.out) hb); have n2_ := Aside0.mk (Kd.R_below (by (with_reducible repeat (first | apply Kd.R_alloc | apply Kd.R_drewN | apply Kd.R_drew)); exact HO393.out) hb); have n3_ := Aside0.mk (Kd.S_lower (Kd.S_newB (Kd.S_new' (Kd.S_new' ho0 (Kd.S_lt (by (with_reducible repeat (first | apply Kd.S_alloc | apply Kd.S_drewN | apply Kd.S_drew)); exact HO_10.out))) (Kd.R_lt (by (with_reducible repeat (first | apply Kd.R_alloc | apply Kd.R_drewN | apply Kd.R_drew)); exact HO385.out))) (g := gb387) (o := .cells #[.int .i64 t381, .int .i64 t382, .slice Ao28 t383.length co28] 26 (0, 0)) (by (with_reducible repeat (first | refine blk_drewN ?_ _ | refine blk_drew ?_ | refine blk_alloc ?_ _)); exact BK387.out)) (below_size (by repeat ((with_reducible exact HB.out))))); have n4_ := Aside0.mk (blk_below (g := gb387) (o := .cells #[.int .i64 t381, .int .i64 t382, .slice Ao28 t383.length co28] 26 (0, 0)) (by (with_reducible repeat (first | refine blk_drewN ?_ _ | refine blk_drew ?_ | refine blk_alloc ?_ _)); exact BK387.out) hb); have n5_ := Aside0.mk (below_step (by repeat ((with_reducible exact HB.out))) hb); clear HO_10; clear HO385; clear HO393; clear BK387; clear HB; have HO_10 := n0_; have HO385 := n1_; have HO393 := n2_; have HO397 := n3_; have BK387 := n4_; have HB := n5_; clear n0_ n1_ n2_ n3_ n4_ n5_; (try clear hb); (try clear hb2); (try clear hk); (try clear hi); (try clear ho0)))
     go_roundg k2
     case measure => have := HK1.out; have := HK2.out; omega
     case rel => exact ⟨(y391), (t395), (wrap64 (x12_2 + 1)), (wrap64 (x13_2 + 1)), (by rfl), (by rfl), H', ⟨by have := HK1.out; have := HK2.out; omega⟩, ⟨by (with_reducible repeat (first | apply Kd.R_alloc | apply Kd.R_drewN | apply Kd.R_drew)); exact HO393.out⟩, ⟨by (with_reducible repeat (first | apply Kd.S_alloc | apply Kd.S_drewN | apply Kd.S_drew)); exact Kd.S_mono HO397.out (fun _ hk => trivial)⟩, ⟨by repeat ((with_reducible exact HB.out))⟩⟩

/-! ### impl_within: function 62 -/
def impl_within.f (a0 : Int) (a1 : Int) (a2 : Int) : Option (Bool) := if a0 ≥ a1 then (some (decide (a0 ≤ a2))) else (some false)
set_option maxHeartbeats 8000000 in
set_option maxRecDepth 100000 in
theorem impl_within.calls (a0 : Int) (a1 : Int) (a2 : Int) (r : Bool) (w : World) (h : impl_within.f a0 a1 a2 = some r) :
    Calls Try.prog 62 #[.int .i64 a0, .int .i64 a1, .int .i64 a2] w fun e w' => e = .returned (.bool r) ∧ Drawn0 w w' := by
 have H : (if a0 ≥ a1 then (some (decide (a0 ≤ a2))) else (some false)) = some r := h
 clear h
 by_cases c4 : a0 ≥ a1
 ·
  rw [if_pos c4] at H
  have c4b0 : decide (a1 ≤ a0) = true := decide_eq_true c4
  clear c4
  obtain rfl := Option.some.inj H
  go_enter Try.func62, Try.ntmps62
  go_wp2
  go_ret
  exact ⟨by rfl, by repeat (exact Drawn0.refl _)⟩
 rw [if_neg c4] at H
 have c4b0 : decide (a1 ≤ a0) = false := decide_eq_false c4
 clear c4
 obtain rfl := Option.some.inj H
 go_enter Try.func62, Try.ntmps62
 go_wp2
 go_ret
 exact ⟨by rfl, by repeat (exact Drawn0.refl _)⟩

/-! ### impl_isLog: function 86 -/
def impl_isLog.f (a0 : Int) : Option (Bool) := (impl_within.f a0 0 6).bind fun t398 => (some t398)
set_option maxHeartbeats 8000000 in
set_option maxRecDepth 100000 in
theorem impl_isLog.calls (a0 : Int) (r : Bool) (w : World) (h : impl_isLog.f a0 = some r) :
    Calls Try.prog 86 #[.int .i64 a0] w fun e w' => e = .returned (.bool r) ∧ Drawn0 w w' := by
 have H : ((impl_within.f a0 0 6).bind fun t398 => (some t398)) = some r := h
 clear h
 replace H := Option.bind_eq_some_iff.mp H
 obtain ⟨t398, A20, H⟩ := H
 replace H : (some t398) = some r := H
 have A2 := Aside0.mk A20
 clear A20
 obtain rfl := Option.some.inj H
 go_enter Try.func86, Try.ntmps86
 go_wp2_with (((with_reducible refine gate_callee (f := 62) rfl ?_); refine goesL_ (some 4) rfl rfl Try.func62 (by kernel_rfl) rfl #[.int .i64 a0, .int .i64 0, .int .i64 6] rfl (by (try simp only [List.map_toArray, List.map_cons, List.map_nil]); rfl) ?_; (with_reducible refine (impl_within.calls a0 0 6 t398 _ A2.out).mono ?_); rintro e w' ⟨rfl, ⟨nd, rfl⟩⟩; refine ⟨_, rfl, ?_⟩))
 go_ret
 exact ⟨by rfl, by repeat (first | exact Drawn0.refl _ | apply Drawn0.step)⟩

/-! ### impl_isLeaf: function 72 -/
def impl_isLeaf.f (a0 : Int) (a1 : Int) : Option (Bool) := (impl_isLog.f a0).bind fun t399 => (if t399 = true then (if 0 ≤ a0 then ((impl_within.f a1 0 (wrap64 ((shl .i64 1 a0) - 1))).bind fun t400 => (some t400)) else (none)) else (some false))
set_option maxHeartbeats 8000000 in
set_option maxRecDepth 100000 in
theorem impl_isLeaf.calls (a0 : Int) (a1 : Int) (r : Bool) (w : World) (h : impl_isLeaf.f a0 a1 = some r) :
    Calls Try.prog 72 #[.int .i64 a0, .int .i64 a1] w fun e w' => e = .returned (.bool r) ∧ Drawn0 w w' := by
 have H : ((impl_isLog.f a0).bind fun t399 => (if t399 = true then (if 0 ≤ a0 then ((impl_within.f a1 0 (wrap64 ((shl .i64 1 a0) - 1))).bind fun t400 => (some t400)) else (none)) else (some false))) = some r := h
 clear h
 replace H := Option.bind_eq_some_iff.mp H
 obtain ⟨t399, A30, H⟩ := H
 replace H : (if t399 = true then (if 0 ≤ a0 then ((impl_within.f a1 0 (wrap64 ((shl .i64 1 a0) - 1))).bind fun t400 => (some t400)) else (none)) else (some false)) = some r := H
 have A3 := Aside0.mk A30
 clear A30
 by_cases c4 : t399 = true
 rotate_left
 ·
  replace c4 := Bool.eq_false_iff.mpr c4
  subst c4
  have H1 : (some false) = some r := by rw [if_neg (show ¬ (false = true) by decide)] at H; exact H
  clear H
  have H := H1
  clear H1
  obtain rfl := Option.some.inj H
  go_enter Try.func72, Try.ntmps72
  go_wp2_with (((with_reducible refine gate_callee (f := 86) rfl ?_); refine goesL_ (some 6) rfl rfl Try.func86 (by kernel_rfl) rfl #[.int .i64 a0] rfl (by (try simp only [List.map_toArray, List.map_cons, List.map_nil]); rfl) ?_; (with_reducible refine (impl_isLog.calls a0 false _ A3.out).mono ?_); rintro e w' ⟨rfl, ⟨nd, rfl⟩⟩; refine ⟨_, rfl, ?_⟩))
  go_ret
  exact ⟨by rfl, by repeat (first | exact Drawn0.refl _ | apply Drawn0.step)⟩
 subst c4
 have H1 : (if 0 ≤ a0 then ((impl_within.f a1 0 (wrap64 ((shl .i64 1 a0) - 1))).bind fun t400 => (some t400)) else (none)) = some r := by rw [if_pos rfl] at H; exact H
 clear H
 have H := H1
 clear H1
 by_cases c5 : 0 ≤ a0
 rotate_left
 ·
  rw [if_neg c5] at H
  exact absurd H (by simp)
 rw [if_pos c5] at H
 have c5b0 := eq_true c5
 have c5b1 : decide (0 ≤ a0) = true := decide_eq_true c5
 clear c5
 obtain ⟨ji6, hji6⟩ : ∃ j_ : Int, (shl .i64 1 a0) = j_ := ⟨_, rfl⟩
 replace H : ((impl_within.f a1 0 (wrap64 ((ji6) - 1))).bind fun t400 => (some t400)) = some r := by (rw [hji6] at H; exact H)
 (try rw [hji6] at A3)
 have hji6_ : (IntKind.i64.wrap (1 * 2 ^ min a0.toNat 64)) = ji6 := hji6
 have hji6z : a0 ≤ 64 → (IntKind.i64.wrap (1 * 2 ^ a0.toNat)) = ji6 := shl_small hji6
 have hji6u : (IntKind.i64.wrap (2 ^ min a0.toNat 64)) = ji6 := by have h_ := hji6_; rw [Int.one_mul] at h_; exact h_
 have hji6v : a0 ≤ 64 → (IntKind.i64.wrap (2 ^ a0.toNat)) = ji6 := fun hle_ => by have h_ := hji6z hle_; rw [Int.one_mul] at h_; exact h_
 have hji6y : (wrap64 (1 * 2 ^ min a0.toNat 64)) = ji6 := (i64_w _).symm.trans hji6_
 have hji6x : a0 ≤ 64 → (wrap64 (1 * 2 ^ a0.toNat)) = ji6 := fun h_ => (i64_w _).symm.trans (hji6z h_)
 replace H := Option.bind_eq_some_iff.mp H
 obtain ⟨t400, A70, H⟩ := H
 replace H : (some t400) = some r := H
 have A7 := Aside0.mk A70
 clear A70
 obtain rfl := Option.some.inj H
 go_enter Try.func72, Try.ntmps72
 go_wp2_with (first | ((with_reducible refine gate_callee (f := 86) rfl ?_); refine goesL_ (some 6) rfl rfl Try.func86 (by kernel_rfl) rfl #[.int .i64 a0] rfl (by (try simp only [List.map_toArray, List.map_cons, List.map_nil]); rfl) ?_; (with_reducible refine (impl_isLog.calls a0 true _ A3.out).mono ?_); rintro e w' ⟨rfl, ⟨nd, rfl⟩⟩; refine ⟨_, rfl, ?_⟩) | (go_at_call 62; (with_reducible refine (impl_within.calls a1 0 (wrap64 ((ji6) - 1)) t400 _ A7.out).mono ?_); rintro e w' ⟨rfl, ⟨nd, rfl⟩⟩))
 go_ret
 exact ⟨by rfl, by repeat (first | exact Drawn0.refl _ | apply Drawn0.step)⟩

/-! ### impl_isBlock: function 85 -/
def impl_isBlock.f (a0_0 : Int) (a0_1 : Int) (l0_2 : List Int) (a1 : Int) (a2 : Int) : Option (Bool) := (impl_isLeaf.f a1 a0_1).bind fun t402 => (if t402 = true then ((impl_within.f a2 1 200).bind fun t403 => (if t403 = true then ((impl_within.f a0_0 0 255).bind fun t404 => (if t404 = true then (some ((l0_2.length : Int) == a2)) else (some false))) else (some false))) else (some false))
set_option maxHeartbeats 8000000 in
set_option maxRecDepth 100000 in
theorem impl_isBlock.calls (a0_0 : Int) (a0_1 : Int) (A0_2 : Option Addr) (c0_2 : Nat) (l0_2 : List Int) (a1 : Int) (a2 : Int) (r : Bool) (w : World) (hr0_2 : Kd.C (Kd.int .u8) w A0_2 l0_2.length l0_2) (hc0_2 : l0_2.length ≤ c0_2) (h : impl_isBlock.f a0_0 a0_1 l0_2 a1 a2 = some r) :
    Calls Try.prog 85 #[.agg #[.int .i64 a0_0, .int .i64 a0_1, .slice A0_2 l0_2.length c0_2], .int .i64 a1, .int .i64 a2] w fun e w' => e = .returned (.bool r) ∧ Below w.heap.size w w' := by
 have hu26 := Try.underlying26
 have HR0_2 := Aside0.mk hr0_2
 have HC0_2 := Aside0.mk hc0_2
 clear hr0_2 hc0_2
 have HB := Aside0.mk (Below.refl w.heap.size w)
 have H : ((impl_isLeaf.f a1 a0_1).bind fun t402 => (if t402 = true then ((impl_within.f a2 1 200).bind fun t403 => (if t403 = true then ((impl_within.f a0_0 0 255).bind fun t404 => (if t404 = true then (some ((l0_2.length : Int) == a2)) else (some false))) else (some false))) else (some false))) = some r := h
 clear h
 replace H := Option.bind_eq_some_iff.mp H
 obtain ⟨t402, A40, H⟩ := H
 replace H : (if t402 = true then ((impl_within.f a2 1 200).bind fun t403 => (if t403 = true then ((impl_within.f a0_0 0 255).bind fun t404 => (if t404 = true then (some ((l0_2.length : Int) == a2)) else (some false))) else (some false))) else (some false)) = some r := H
 have A4 := Aside0.mk A40
 clear A40
 by_cases c5 : t402 = true
 rotate_left
 ·
  replace c5 := Bool.eq_false_iff.mpr c5
  subst c5
  have H1 : (some false) = some r := by rw [if_neg (show ¬ (false = true) by decide)] at H; exact H
  clear H
  have H := H1
  clear H1
  obtain rfl := Option.some.inj H
  go_enter Try.func85, Try.ntmps85
  go_wp2_with (first | ((with_reducible refine gate_dst (N := 3) rfl ?_); (try (refine gate_guard (by rfl) ?_; dsimp only)); refine box_event ?hg (N := 3) ?hd (cs := #[.int .i64 a0_0, .int .i64 a0_1, .slice A0_2 l0_2.length c0_2]) (t := 26) ?hr ?_; (case hd => rfl); (case hg => rfl); (case hr => (go_simp; done)); intro gb401 hg w16 hbox hb; have n0_ := Aside0.mk (below_step (by repeat ((with_reducible exact HB.out))) hb); have n1_ := Aside0.mk (hbox); have n2_ := Aside0.mk ((by rw [hg]; exact (below_size (by repeat ((with_reducible exact HB.out)))) : w.heap.size ≤ gb401)); have n3_ := Aside0.mk ((by rw [hg]; exact (below_size (by repeat ((with_reducible exact HB.out)))) : w.heap.size ≤ gb401)); clear HB; have HB := n0_; have BK401 := n1_; have GW401 := n2_; have GE401 := n3_; clear n0_ n1_ n2_ n3_; clear hb hbox hg; have hcz17_0 : w16.cell? ⟨gb401, 0, none⟩ = some (.int .i64 a0_0) := b41_ BK401.out 0 rfl; have hcz17_1 : w16.cell? ⟨gb401, 1, none⟩ = some (.int .i64 a0_1) := b41_ BK401.out 1 rfl; have hcz17_2 : w16.cell? ⟨gb401, 2, none⟩ = some (.slice A0_2 l0_2.length c0_2) := b41_ BK401.out 2 rfl; have hfz17_0 := blk_frozen BK401.out 0; have hfz17_1 := blk_frozen BK401.out 1; have hfz17_2 := blk_frozen BK401.out 2) | ((with_reducible refine gate_callee (f := 72) rfl ?_); refine goesL_ (some 10) rfl rfl Try.func72 (by kernel_rfl) rfl #[.int .i64 a1, .int .i64 a0_1] rfl (by (try simp only [List.map_toArray, List.map_cons, List.map_nil]); rfl) ?_; (with_reducible refine (impl_isLeaf.calls a1 a0_1 false _ A4.out).mono ?_); rintro e w' ⟨rfl, ⟨nd, rfl⟩⟩; refine ⟨_, rfl, ?_⟩))
  go_ret
  exact ⟨by rfl, by repeat ((with_reducible first | exact HB.out | apply pw_below_drewN))⟩
 subst c5
 have H1 : ((impl_within.f a2 1 200).bind fun t403 => (if t403 = true then ((impl_within.f a0_0 0 255).bind fun t404 => (if t404 = true then (some ((l0_2.length : Int) == a2)) else (some false))) else (some false))) = some r := by rw [if_pos rfl] at H; exact H
 clear H
 have H := H1
 clear H1
 replace H := Option.bind_eq_some_iff.mp H
 obtain ⟨t403, A60, H⟩ := H
 replace H : (if t403 = true then ((impl_within.f a0_0 0 255).bind fun t404 => (if t404 = true then (some ((l0_2.length : Int) == a2)) else (some false))) else (some false)) = some r := H
 have A6 := Aside0.mk A60
 clear A60
 by_cases c7 : t403 = true
 rotate_left
 ·
  replace c7 := Bool.eq_false_iff.mpr c7
  subst c7
  have H1 : (some false) = some r := by rw [if_neg (show ¬ (false = true) by decide)] at H; exact H
  clear H
  have H := H1
  clear H1
  obtain rfl := Option.some.inj H
  go_enter Try.func85, Try.ntmps85
  go_wp2_with (first | ((with_reducible refine gate_dst (N := 3) rfl ?_); (try (refine gate_guard (by rfl) ?_; dsimp only)); refine box_event ?hg (N := 3) ?hd (cs := #[.int .i64 a0_0, .int .i64 a0_1, .slice A0_2 l0_2.length c0_2]) (t := 26) ?hr ?_; (case hd => rfl); (case hg => rfl); (case hr => (go_simp; done)); intro gb401 hg w14 hbox hb; have n0_ := Aside0.mk (below_step (by repeat ((with_reducible exact HB.out))) hb); have n1_ := Aside0.mk (hbox); have n2_ := Aside0.mk ((by rw [hg]; exact (below_size (by repeat ((with_reducible exact HB.out)))) : w.heap.size ≤ gb401)); have n3_ := Aside0.mk ((by rw [hg]; exact (below_size (by repeat ((with_reducible exact HB.out)))) : w.heap.size ≤ gb401)); clear HB; have HB := n0_; have BK401 := n1_; have GW401 := n2_; have GE401 := n3_; clear n0_ n1_ n2_ n3_; clear hb hbox hg; have hcz15_0 : w14.cell? ⟨gb401, 0, none⟩ = some (.int .i64 a0_0) := b41_ BK401.out 0 rfl; have hcz15_1 : w14.cell? ⟨gb401, 1, none⟩ = some (.int .i64 a0_1) := b41_ BK401.out 1 rfl; have hcz15_2 : w14.cell? ⟨gb401, 2, none⟩ = some (.slice A0_2 l0_2.length c0_2) := b41_ BK401.out 2 rfl; have hfz15_0 := blk_frozen BK401.out 0; have hfz15_1 := blk_frozen BK401.out 1; have hfz15_2 := blk_frozen BK401.out 2) | ((with_reducible refine gate_callee (f := 72) rfl ?_); refine goesL_ (some 10) rfl rfl Try.func72 (by kernel_rfl) rfl #[.int .i64 a1, .int .i64 a0_1] rfl (by (try simp only [List.map_toArray, List.map_cons, List.map_nil]); rfl) ?_; (with_reducible refine (impl_isLeaf.calls a1 a0_1 true _ A4.out).mono ?_); rintro e w' ⟨rfl, ⟨nd, rfl⟩⟩; refine ⟨_, rfl, ?_⟩) | (go_at_call 62; (with_reducible refine (impl_within.calls a2 1 200 false _ A6.out).mono ?_); rintro e w' ⟨rfl, ⟨nd, rfl⟩⟩))
  go_ret
  exact ⟨by rfl, by repeat ((with_reducible first | exact HB.out | apply pw_below_drewN))⟩
 subst c7
 have H1 : ((impl_within.f a0_0 0 255).bind fun t404 => (if t404 = true then (some ((l0_2.length : Int) == a2)) else (some false))) = some r := by rw [if_pos rfl] at H; exact H
 clear H
 have H := H1
 clear H1
 replace H := Option.bind_eq_some_iff.mp H
 obtain ⟨t404, A80, H⟩ := H
 replace H : (if t404 = true then (some ((l0_2.length : Int) == a2)) else (some false)) = some r := H
 have A8 := Aside0.mk A80
 clear A80
 by_cases c9 : t404 = true
 ·
  subst c9
  have H1 : (some ((l0_2.length : Int) == a2)) = some r := by rw [if_pos rfl] at H; exact H
  clear H
  have H := H1
  clear H1
  obtain rfl := Option.some.inj H
  go_enter Try.func85, Try.ntmps85
  go_wp2_with (first | ((with_reducible refine gate_dst (N := 3) rfl ?_); (try (refine gate_guard (by rfl) ?_; dsimp only)); refine box_event ?hg (N := 3) ?hd (cs := #[.int .i64 a0_0, .int .i64 a0_1, .slice A0_2 l0_2.length c0_2]) (t := 26) ?hr ?_; (case hd => rfl); (case hg => rfl); (case hr => (go_simp; done)); intro gb401 hg w10 hbox hb; have n0_ := Aside0.mk (below_step (by repeat ((with_reducible exact HB.out))) hb); have n1_ := Aside0.mk (hbox); have n2_ := Aside0.mk ((by rw [hg]; exact (below_size (by repeat ((with_reducible exact HB.out)))) : w.heap.size ≤ gb401)); have n3_ := Aside0.mk ((by rw [hg]; exact (below_size (by repeat ((with_reducible exact HB.out)))) : w.heap.size ≤ gb401)); clear HB; have HB := n0_; have BK401 := n1_; have GW401 := n2_; have GE401 := n3_; clear n0_ n1_ n2_ n3_; clear hb hbox hg; have hcz11_0 : w10.cell? ⟨gb401, 0, none⟩ = some (.int .i64 a0_0) := b41_ BK401.out 0 rfl; have hcz11_1 : w10.cell? ⟨gb401, 1, none⟩ = some (.int .i64 a0_1) := b41_ BK401.out 1 rfl; have hcz11_2 : w10.cell? ⟨gb401, 2, none⟩ = some (.slice A0_2 l0_2.length c0_2) := b41_ BK401.out 2 rfl; have hfz11_0 := blk_frozen BK401.out 0; have hfz11_1 := blk_frozen BK401.out 1; have hfz11_2 := blk_frozen BK401.out 2) | ((with_reducible refine gate_callee (f := 72) rfl ?_); refine goesL_ (some 10) rfl rfl Try.func72 (by kernel_rfl) rfl #[.int .i64 a1, .int .i64 a0_1] rfl (by (try simp only [List.map_toArray, List.map_cons, List.map_nil]); rfl) ?_; (with_reducible refine (impl_isLeaf.calls a1 a0_1 true _ A4.out).mono ?_); rintro e w' ⟨rfl, ⟨nd, rfl⟩⟩; refine ⟨_, rfl, ?_⟩) | (go_at_call 62; (with_reducible refine (impl_within.calls a2 1 200 true _ A6.out).mono ?_); rintro e w' ⟨rfl, ⟨nd, rfl⟩⟩) | (go_at_call 62; (with_reducible refine (impl_within.calls a0_0 0 255 true _ A8.out).mono ?_); rintro e w' ⟨rfl, ⟨nd, rfl⟩⟩))
  go_ret
  exact ⟨by rfl, by repeat ((with_reducible first | exact HB.out | apply pw_below_drewN))⟩
 replace c9 := Bool.eq_false_iff.mpr c9
 subst c9
 have H1 : (some false) = some r := by rw [if_neg (show ¬ (false = true) by decide)] at H; exact H
 clear H
 have H := H1
 clear H1
 obtain rfl := Option.some.inj H
 go_enter Try.func85, Try.ntmps85
 go_wp2_with (first | ((with_reducible refine gate_dst (N := 3) rfl ?_); (try (refine gate_guard (by rfl) ?_; dsimp only)); refine box_event ?hg (N := 3) ?hd (cs := #[.int .i64 a0_0, .int .i64 a0_1, .slice A0_2 l0_2.length c0_2]) (t := 26) ?hr ?_; (case hd => rfl); (case hg => rfl); (case hr => (go_simp; done)); intro gb401 hg w12 hbox hb; have n0_ := Aside0.mk (below_step (by repeat ((with_reducible exact HB.out))) hb); have n1_ := Aside0.mk (hbox); have n2_ := Aside0.mk ((by rw [hg]; exact (below_size (by repeat ((with_reducible exact HB.out)))) : w.heap.size ≤ gb401)); have n3_ := Aside0.mk ((by rw [hg]; exact (below_size (by repeat ((with_reducible exact HB.out)))) : w.heap.size ≤ gb401)); clear HB; have HB := n0_; have BK401 := n1_; have GW401 := n2_; have GE401 := n3_; clear n0_ n1_ n2_ n3_; clear hb hbox hg; have hcz13_0 : w12.cell? ⟨gb401, 0, none⟩ = some (.int .i64 a0_0) := b41_ BK401.out 0 rfl; have hcz13_1 : w12.cell? ⟨gb401, 1, none⟩ = some (.int .i64 a0_1) := b41_ BK401.out 1 rfl; have hcz13_2 : w12.cell? ⟨gb401, 2, none⟩ = some (.slice A0_2 l0_2.length c0_2) := b41_ BK401.out 2 rfl; have hfz13_0 := blk_frozen BK401.out 0; have hfz13_1 := blk_frozen BK401.out 1; have hfz13_2 := blk_frozen BK401.out 2) | ((with_reducible refine gate_callee (f := 72) rfl ?_); refine goesL_ (some 10) rfl rfl Try.func72 (by kernel_rfl) rfl #[.int .i64 a1, .int .i64 a0_1] rfl (by (try simp only [List.map_toArray, List.map_cons, List.map_nil]); rfl) ?_; (with_reducible refine (impl_isLeaf.calls a1 a0_1 true _ A4.out).mono ?_); rintro e w' ⟨rfl, ⟨nd, rfl⟩⟩; refine ⟨_, rfl, ?_⟩) | (go_at_call 62; (with_reducible refine (impl_within.calls a2 1 200 true _ A6.out).mono ?_); rintro e w' ⟨rfl, ⟨nd, rfl⟩⟩) | (go_at_call 62; (with_reducible refine (impl_within.calls a0_0 0 255 false _ A8.out).mono ?_); rintro e w' ⟨rfl, ⟨nd, rfl⟩⟩))
 go_ret
 exact ⟨by rfl, by repeat ((with_reducible first | exact HB.out | apply pw_below_drewN))⟩

end Go.Proofs.Ytggfndobfpmoaaa.PFnEvicted

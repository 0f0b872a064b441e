-- Laid by a program of this session: what the print of the kit writes, and contracts of the session where the print takes no function. Lean checks it.
import Derived.Test.YtljmhhadclgegaaPFnBatchx0
namespace Go.Proofs.Ytljmhhadclgegaa.PFnBatch
open Go.RowKit Go.Proofs.YtljmhhadclgegaaW.PrintWords Go.Proofs.YtljmhhadclgegaaW.PrintLast Go.Proofs.YtljmhhadclgegaaW.PrintMore
attribute [local go_sem] max2_int min2_int max_two min_two max_three min_three max_four min_four   -- for this text's walks alone
set_option linter.unusedVariables false
set_option linter.unusedSimpArgs false

/-! ### impl_costs: function 71 -/
mutual
def impl_costs.l0 : Nat → ByteArray → ByteArray → List (List Int) → Int → Option ((List (List Int)))
  | 0, _, _, _, _ => none
  | k + 1, x0, x1, x5, x6 => if x6 ≥ 0 then (if 0 ≤ (wrap64 ((x1.size : Int) + 1)) then (if (wrap64 ((x1.size : Int) + 1) : Int).toNat ≤ 35184372088832 then (if 0 ≤ x6 then (if x6 < (x5.length : Int) then (impl_costs.l1 k x0 x1 (x5.set (x6 : Int).toNat (List.replicate (wrap64 ((x1.size : Int) + 1) : Int).toNat 0)) x6 (x1.size : Int)) else (none)) else (none)) else (none)) else (none)) else (some x5)
def impl_costs.l1 : Nat → ByteArray → ByteArray → List (List Int) → Int → Int → Option ((List (List Int)))
  | 0, _, _, _, _, _ => none
  | k + 1, x0, x1, x5, x6, x7 => if x7 ≥ 0 then (if x6 = (x0.size : Int) then (if 0 ≤ x6 then (if x6 < (x5.length : Int) then (if 0 ≤ x7 then (if x7 < ((rd_L4 x5 x6).length : Int) then (impl_costs.l1 k x0 x1 (x5.set (x6 : Int).toNat ((rd_L4 x5 x6).set (x7 : Int).toNat (wrap64 ((x1.size : Int) - x7)))) x6 (wrap64 (x7 - 1))) else (none)) else (none)) else (none)) else (none)) else (if x7 = (x1.size : Int) then (if 0 ≤ x6 then (if x6 < (x5.length : Int) then (if 0 ≤ x7 then (if x7 < ((rd_L4 x5 x6).length : Int) then (impl_costs.l1 k x0 x1 (x5.set (x6 : Int).toNat ((rd_L4 x5 x6).set (x7 : Int).toNat (wrap64 ((x0.size : Int) - x6)))) x6 (wrap64 (x7 - 1))) else (none)) else (none)) else (none)) else (none)) else (if 0 ≤ (wrap64 (x6 + 1)) then (if (wrap64 (x6 + 1)) < (x5.length : Int) then (if 0 ≤ (wrap64 (x7 + 1)) then (if (wrap64 (x7 + 1)) < ((rd_L4 x5 (wrap64 (x6 + 1))).length : Int) then (if 0 ≤ x6 then (if x6 < (x0.size : Int) then (if 0 ≤ x7 then (if x7 < (x1.size : Int) then (if (bt x0 x6) = (bt x1 x7) then (if x6 < (x5.length : Int) then (if x7 < ((rd_L4 x5 (wrap64 (x6 + 1))).length : Int) then (if (wrap64 (x7 + 1)) < ((rd_L4 x5 x6).length : Int) then (if x7 < ((rd_L4 x5 x6).length : Int) then (impl_costs.l1 k x0 x1 (x5.set (x6 : Int).toNat ((rd_L4 x5 x6).set (x7 : Int).toNat (mn (mn (rd (rd_L4 x5 (wrap64 (x6 + 1))) (wrap64 (x7 + 1))) (wrap64 ((rd (rd_L4 x5 (wrap64 (x6 + 1))) x7) + 1))) (wrap64 ((rd (rd_L4 x5 x6) (wrap64 (x7 + 1))) + 1))))) x6 (wrap64 (x7 - 1))) else (none)) else (none)) else (none)) else (none)) else (if x6 < (x5.length : Int) then (if x7 < ((rd_L4 x5 (wrap64 (x6 + 1))).length : Int) then (if (wrap64 (x7 + 1)) < ((rd_L4 x5 x6).length : Int) then (if x7 < ((rd_L4 x5 x6).length : Int) then (impl_costs.l1 k x0 x1 (x5.set (x6 : Int).toNat ((rd_L4 x5 x6).set (x7 : Int).toNat (mn (mn (wrap64 ((rd (rd_L4 x5 (wrap64 (x6 + 1))) (wrap64 (x7 + 1))) + 1)) (wrap64 ((rd (rd_L4 x5 (wrap64 (x6 + 1))) x7) + 1))) (wrap64 ((rd (rd_L4 x5 x6) (wrap64 (x7 + 1))) + 1))))) x6 (wrap64 (x7 - 1))) else (none)) else (none)) else (none)) else (none))) else (none)) else (none)) else (none)) else (none)) else (none)) else (none)) else (none)) else (none)))) else (impl_costs.l0 k x0 x1 x5 (wrap64 (x6 - 1)))
end
def impl_costs.f (k : Nat) (a0 : ByteArray) (a1 : ByteArray) : Option ((List (List Int))) := if 0 ≤ (wrap64 ((a0.size : Int) + 1)) then (if (wrap64 ((a0.size : Int) + 1) : Int).toNat ≤ 11728124029610 then (impl_costs.l0 k a0 a1 (List.replicate (wrap64 ((a0.size : Int) + 1) : Int).toNat []) (a0.size : Int)) else (none)) else (none)
theorem impl_costs.mono_l : ∀ k, (∀ y0 y1 y2 y3, LeO (impl_costs.l0 k y0 y1 y2 y3) (impl_costs.l0 (k + 1) y0 y1 y2 y3)) ∧ (∀ y0 y1 y2 y3 y4, LeO (impl_costs.l1 k y0 y1 y2 y3 y4) (impl_costs.l1 (k + 1) y0 y1 y2 y3 y4))
  | 0 => ⟨fun _ _ _ _ r h => by simp [impl_costs.l0] at h, fun _ _ _ _ _ r h => by simp [impl_costs.l1] at h⟩
  | k + 1 => by
    obtain ⟨ih0, ih1⟩ := impl_costs.mono_l k
    refine ⟨?_, ?_⟩
    · intro y0 y1 y2 y3
      unfold impl_costs.l0
      repeat' first | (with_reducible exact ih1 _ _ _ _ _) | (with_reducible exact LeO.refl _) | (with_reducible refine LeO.ite ?_ ?_)
    · intro y0 y1 y2 y3 y4
      unfold impl_costs.l1
      repeat' first | (with_reducible exact ih0 _ _ _ _) | (with_reducible exact ih1 _ _ _ _ _) | (with_reducible exact LeO.refl _) | (with_reducible refine LeO.ite ?_ ?_)
theorem impl_costs.mono : ∀ a0 a1 k, LeO (impl_costs.f k a0 a1) (impl_costs.f (k + 1) a0 a1) := by
  intro a0 a1 k
  obtain ⟨ih0, ih1⟩ := impl_costs.mono_l k
  unfold impl_costs.f
  repeat' first | (with_reducible exact ih0 _ _ _ _) | (with_reducible exact LeO.refl _) | (with_reducible refine LeO.ite ?_ ?_)
def impl_costs.T12 : Bool × List (List Nat × List Nat) := (true, [([], []), ([], []), ([0, 1], [0, 1]), ([2], [2]), ([], []), ([], []), ([], []), ([], []), ([7], [7]), ([6, 8], [6, 8]), ([9], [9]), ([], []), ([10, 11], [10, 11]), ([12], [12]), ([13], [13]), ([], []), ([], []), ([15, 16], [15, 16]), ([17], [17]), ([], []), ([19], [19]), ([18, 20], [18, 20]), ([21], [21]), ([22], [22]), ([5, 14, 23], [5, 14, 23]), ([3, 4, 0, 1, 2, 3, 4, 5, 6, 7, 8, 9, 10, 11, 12, 13, 14, 15, 16, 17, 18, 19, 20, 21, 22, 23, 24], [3, 4]), ([25, 24, 0, 1, 2, 3, 4, 5, 6, 7, 8, 9, 10, 11, 12, 13, 14, 15, 16, 17, 18, 19, 20, 21, 22, 23, 24], [24, 25])])
def impl_costs.B12 : List Nat := [0, 0, 3, 7, 0, 0, 0, 0, 128, 448, 960, 0, 4032, 8128, 16320, 0, 0, 98304, 229376, 0, 524288, 2064384, 4161536, 8355840, 16777184, 33554431, 67108863]
theorem impl_costs.tab12 : rtab .any (opsOf Try.f71 12) = impl_costs.T12 := by kernel_rfl
theorem impl_costs.bits12 : waitsOk impl_costs.T12.2 impl_costs.B12 = true := by kernel_rfl
set_option maxHeartbeats 8000000 in
set_option maxRecDepth 100000 in
theorem impl_costs.calls (k : Nat) (a0 : ByteArray) (a1 : ByteArray) (r : List (List Int)) (w : World) (h : impl_costs.f k a0 a1 = some r) :
    Calls Try.prog 71 #[.string a0, .string a1] w fun e w' => ∃ v0_ : Value, e = .returned (v0_) ∧ Kd.S (Kd.slice 3 (Kd.int .i64)) 24 w' w.heap.size (fun _ => True) v0_ r ∧ Below w.heap.size w w' := by
 have HB := Aside0.mk (Below.refl w.heap.size w)
 have H : (if 0 ≤ (wrap64 ((a0.size : Int) + 1)) then (if (wrap64 ((a0.size : Int) + 1) : Int).toNat ≤ 11728124029610 then (impl_costs.l0 k a0 a1 (List.replicate (wrap64 ((a0.size : Int) + 1) : Int).toNat []) (a0.size : Int)) else (none)) else (none)) = some r := h
 clear h
 obtain ⟨ji3, hji3⟩ : ∃ j_ : Int, (wrap64 ((a0.size : Int) + 1)) = j_ := ⟨_, rfl⟩
 replace H : (if 0 ≤ (ji3) then (if (ji3 : Int).toNat ≤ 11728124029610 then (impl_costs.l0 k a0 a1 (List.replicate (ji3 : Int).toNat []) (a0.size : Int)) else (none)) else (none)) = some r := by (rw [hji3] at H; exact H)
 have hji3w : (IntKind.i64.wrap ((a0.size : Int) + 1)) = ji3 := (i64_w _).trans hji3
 by_cases c4 : 0 ≤ (ji3)
 rotate_left
 ·
  rw [if_neg c4] at H
  exact absurd H (by simp)
 rw [if_pos c4] at H
 have c4b0 := eq_true c4
 have c4b1 : decide (0 ≤ (ji3)) = true := decide_eq_true c4
 clear c4
 by_cases c5 : (ji3 : Int).toNat ≤ 11728124029610
 rotate_left
 ·
  rw [if_neg c5] at H
  exact absurd H (by simp)
 rw [if_pos c5] at H
 have c5b0 := eq_true c5
 have c5b1 : decide ((ji3 : Int).toNat ≤ 11728124029610) = true := decide_eq_true c5
 clear c5
 obtain ⟨y193, hy193⟩ : ∃ y_ : List (List Int), y_ = (List.replicate (ji3 : Int).toNat []) := ⟨_, rfl⟩
 replace H : (impl_costs.l0 k a0 a1 y193 (a0.size : Int)) = some r := by (rw [hy193]; with_reducible exact H)
 have Ny193 := Aside0.mk hy193
 clear hy193
 have H' := Aside0.mk H
 clear H
 go_enter Try.func71, Try.ntmps71
 go_wp2_with (((with_reducible refine gate_dst (N := 12) rfl ?_); refine Kd.S_make (Kd.slice 3 (Kd.int .i64)) _ 24 rfl (N := 12) rfl 76 _ _ rfl ji3 rfl rfl Try.underlying76 (.slice none 0 0) 24 info24 rfl (by decide) (by omega) [] (ok := fun _ => True) (okp := fun _ => True) ⟨_, rfl, Kd.R_nil _ _ _ _ _⟩ (fun _ hk => hk) trivial (of_decide_eq_true (by (with_reducible assumption))) (Nat.le_trans (Nat.mul_le_mul_right _ (of_decide_eq_true (by (with_reducible assumption)) : ji3.toNat ≤ 11728124029610)) (by omega)) (Below.refl _ _) (Nat.le_refl _) ?_; intro v194 w6 ho7 hb hg_ hnew_; clear hg_ hnew_; (rw [← Ny193.out] at ho7); have n0_ := Aside0.mk (Kd.S_lower ho7 (below_size (by repeat ((with_reducible exact HB.out))))); have n1_ := Aside0.mk (below_step (by repeat ((with_reducible exact HB.out))) hb); clear HB; have HO195 := n0_; have HB := n1_; clear n0_ n1_; clear hb ho7))
 go_loopg [6] k (fun kq v6 w' => ∃ (x5_1 : List (List Int)) (x6_1 : Int), v6 = .int .i64 x6_1 ∧ Aside0 (impl_costs.l0 kq a0 a1 x5_1 x6_1 = some r) ∧ Aside0 (kq ≤ k) ∧ Aside0 (Kd.S (Kd.slice 3 (Kd.int .i64)) 24 w' w.heap.size (fun _ => True) v194 x5_1) ∧ Aside0 (Below w.heap.size w w'))
 case atStart => exact ⟨(y193), ((a0.size : Int)), (by rfl), H', ⟨Nat.le_refl _⟩, ⟨by (with_reducible repeat (first | apply Kd.S_alloc | apply Kd.S_drewN | apply Kd.S_drew)); exact HO195.out⟩, ⟨by repeat ((with_reducible exact HB.out))⟩⟩
 case round =>
  clear H'
  try clear p2
  try clear c4
  try clear c4b0
  try clear c4b1
  try clear c5
  try clear c5b0
  try clear c5b1
  try clear p6
  try clear c7
  obtain ⟨x5_1, x6_1, rfl, HA, HK1, HO_5, HB⟩ := hrel
  cases gk with
  | zero => exact absurd HA.out (by simp [impl_costs.l0])
  | succ k1 =>
   have H := HA.out
   clear HA
   simp only [impl_costs.l0] at H
   by_cases c8 : x6_1 ≥ 0
   rotate_left
   ·
    rw [if_neg c8] at H
    have c8b0 : decide (0 ≤ x6_1) = false := decide_eq_false c8
    clear c8
    obtain rfl := Option.some.inj H
    go_wp2
    go_ret
    exact ⟨_, by rfl, by (with_reducible repeat (first | apply Kd.S_alloc | apply Kd.S_drewN | apply Kd.S_drew)); exact HO_5.out, by repeat ((with_reducible exact HB.out))⟩
   rw [if_pos c8] at H
   have c8b0 : decide (0 ≤ x6_1) = true := decide_eq_true c8
   clear c8
   obtain ⟨ji9, hji9⟩ : ∃ j_ : Int, (wrap64 ((a1.size : Int) + 1)) = j_ := ⟨_, rfl⟩
   replace H : (if 0 ≤ (ji9) then (if (ji9 : Int).toNat ≤ 35184372088832 then (if 0 ≤ x6_1 then (if x6_1 < (x5_1.length : Int) then (impl_costs.l1 k1 a0 a1 (x5_1.set (x6_1 : Int).toNat (List.replicate (ji9 : Int).toNat 0)) x6_1 (a1.size : Int)) else (none)) else (none)) else (none)) else (none)) = some r := by (rw [hji9] at H; exact H)
   have hji9w : (IntKind.i64.wrap ((a1.size : Int) + 1)) = ji9 := (i64_w _).trans hji9
   by_cases c10 : 0 ≤ (ji9)
   rotate_left
   ·
    rw [if_neg c10] at H
    exact absurd H (by simp)
   rw [if_pos c10] at H
   have c10b0 := eq_true c10
   have c10b1 : decide (0 ≤ (ji9)) = true := decide_eq_true c10
   clear c10
   by_cases c11 : (ji9 : Int).toNat ≤ 35184372088832
   rotate_left
   ·
    rw [if_neg c11] at H
    exact absurd H (by simp)
   rw [if_pos c11] at H
   have c11b0 := eq_true c11
   have c11b1 : decide ((ji9 : Int).toNat ≤ 35184372088832) = true := decide_eq_true c11
   clear c11
   obtain ⟨y196, hy196⟩ : ∃ y_ : List Int, y_ = (List.replicate (ji9 : Int).toNat 0) := ⟨_, rfl⟩
   replace H : (if 0 ≤ x6_1 then (if x6_1 < (x5_1.length : Int) then (impl_costs.l1 k1 a0 a1 (x5_1.set (x6_1 : Int).toNat y196) x6_1 (a1.size : Int)) else (none)) else (none)) = some r := by (rw [hy196]; with_reducible exact H)
   have Ny196 := Aside0.mk hy196
   clear hy196
   by_cases c12 : 0 ≤ x6_1
   rotate_left
   ·
    rw [if_neg c12] at H
    exact absurd H (by simp)
   rw [if_pos c12] at H
   have c12b0 : decide (0 ≤ x6_1) = true := decide_eq_true c12
   clear c12
   by_cases c13 : x6_1 < (x5_1.length : Int)
   rotate_left
   ·
    rw [if_neg c13] at H
    exact absurd H (by simp)
   rw [if_pos c13] at H
   have c13b0 : decide (x6_1 < (x5_1.length : Int)) = true := decide_eq_true c13
   clear c13
   obtain ⟨y199, hy199⟩ : ∃ y_ : List (List Int), y_ = (x5_1.set (x6_1 : Int).toNat y196) := ⟨_, rfl⟩
   replace H : (impl_costs.l1 k1 a0 a1 y199 x6_1 (a1.size : Int)) = some r := by (rw [hy199]; with_reducible exact H)
   have Ny199 := Aside0.mk hy199
   clear hy199
   have H' := Aside0.mk H
   clear H
   go_wp2_with (first | ((with_reducible refine gate_dst (N := 24) rfl ?_); refine Kd.R_make (Kd.int .i64) _ 3 rfl (N := 24) rfl 24 _ _ rfl ji9 rfl rfl Try.underlying24 (.int .i64 0) 8 info3 rfl (by decide) (by omega) 0 (ok := fun _ => True) (okp := fun _ => True) rfl (fun _ hk => hk) trivial (of_decide_eq_true (by (with_reducible assumption))) (Nat.le_trans (Nat.mul_le_mul_right _ (of_decide_eq_true (by (with_reducible assumption)) : ji9.toNat ≤ 35184372088832)) (by omega)) (Below.refl _ _) (Nat.le_refl _) ?_; intro v197 w15 ho16 hb hg_ hnew_; clear hg_ hnew_; (rw [← Ny196.out] at ho16); have n0_ := Aside0.mk (Kd.S_elder' (by (with_reducible repeat (first | apply Kd.S_alloc | apply Kd.S_drewN | apply Kd.S_drew)); exact HO_5.out) (Kd.R_base ho16) hb); have n1_ := Aside0.mk (Kd.R_lower ho16 (below_size (by repeat ((with_reducible exact HB.out))))); have n2_ := Aside0.mk (below_step (by repeat ((with_reducible exact HB.out))) hb); clear HO_5; clear HB; have HO_5 := n0_; have HO198 := n1_; have HB := n2_; clear n0_ n1_ n2_; obtain ⟨Aq197, cq197, eq197⟩ := Kd.R_slice HO198.out; subst eq197; clear hb ho16; have p14 : 0 ≤ (x6_1 : Int) := of_decide_eq_true (by (with_reducible assumption)); have q14 : (x6_1 : Int) < ((x5_1.length : Int) : Int) := of_decide_eq_true (by (with_reducible assumption)); obtain ⟨go14, co14, eo14, gb14, gl14, cl14, HG14⟩ := Kd.S_form HO_5.out (by omega); (cases eo14); have GB14 := Aside0.mk gb14; have GG14 := Aside0.mk HG14; clear gb14 gl14 HG14; obtain ⟨_, ce14, hcl14, hM14, hcc14, hfr14, _, _⟩ := Kd.S_elem HO_5.out [] (x6_1 : Int) p14 q14; obtain ⟨ve14_0, rfl, ge14_0⟩ := hM14; have hx14_0 := hcc14 0 _ rfl; have hf14_0 := hfr14 0; (try simp only [show ((Kd.slice 3 (Kd.int .i64))).sz = 1 from rfl, Nat.mul_one, Nat.add_zero] at hx14_0); (try simp only [show ((Kd.slice 3 (Kd.int .i64))).sz = 1 from rfl, Nat.mul_one, Nat.add_zero] at hf14_0); (try clear hM14); clear hcl14 hcc14 hfr14; replace p14 := eq_true p14; replace q14 := eq_true q14; have n_ := Aside0.mk (Kd.S_mono (ok' := (fun k_ => some k_ ≠ ((.slice Aq197 y196.length cq197 : Value) : Value).ownBlock)) HO_5.out (fun k_ hk => hk.2)); clear HO_5; have HO_5 := n_; clear n_; have HX17 := Aside0.mk (show Kd.S (Kd.slice 3 (Kd.int .i64)) 24 w15 w.heap.size (fun k_ => ((fun _ => True)) k_ ∧ ¬ ((fun k_ => some k_ = ((.slice Aq197 y196.length cq197 : Value) : Value).ownBlock)) k_) (.slice (some ⟨go14, 0, none⟩) x5_1.length co14) x5_1 from (by (with_reducible repeat (first | apply Kd.S_alloc | apply Kd.S_drewN | apply Kd.S_drew)); exact Kd.S_mono HO_5.out (fun k_ hk => ⟨trivial, fun e_ => hk e_⟩))); obtain ⟨oki17, ce17, hcl17, hM17, hcc17, hfr17, hoki17, hH17⟩ := Kd.S_elem HX17.out [] (x6_1 : Int) (of_decide_eq_true (by (with_reducible assumption))) (by have h_ : (x6_1 : Int) < ((x5_1.length : Int) : Int) := of_decide_eq_true (by (with_reducible assumption)); exact h_); obtain ⟨ve17_0, rfl, ge17_0⟩ := hM17; have HP17 := Kd.S_seg hH17 (of_decide_eq_true (by (with_reducible assumption))) (by have h_ : (x6_1 : Int) < ((x5_1.length : Int) : Int) := of_decide_eq_true (by (with_reducible assumption)); exact h_) (seg := [(.slice Aq197 y196.length cq197 : Value)]) (j := 0) (show 1 ≤ 1 from by decide) (x' := y196) (Kd.M_row (Kd.R_mono (Kd.R_tight rfl (Kd.R_mono (ok' := fun k_ => ((fun _ => True)) k_ ∧ k_ ≠ go14) (Kd.R_apart' (HO198.out) (Kd.S_typed HO_5.out) (by decide)) (fun k_ hk => ⟨trivial, fun e_ => (hk.2) (by rw [e_]; rfl)⟩))) (fun _ h_ => Or.inr (h_)))) (fun _ hk => hk) (fun k_ hk_ => ((Kd.R_mono (ok' := fun k_ => ((fun _ => True)) k_ ∧ k_ ≠ go14) (Kd.R_apart' (HO198.out) (Kd.S_typed HO_5.out) (by decide)) (fun k_ hk => ⟨trivial, fun e_ => (hk.2) (by rw [e_]; rfl)⟩))).1 k_ hk_.symm); have hx17_0 := hcc17 0 _ rfl; (try simp only [show ((Kd.slice 3 (Kd.int .i64))).sz = 1 from rfl, Nat.mul_one, Nat.add_zero] at hx17_0); have hf17_0 := hfr17 0; (try simp only [show ((Kd.slice 3 (Kd.int .i64))).sz = 1 from rfl, Nat.mul_one, Nat.add_zero] at hf17_0); (try clear hM17); clear hcl17 hcc17 hfr17 hoki17 hH17; (try simp only [show ((Kd.slice 3 (Kd.int .i64))).sz = 1 from rfl, Nat.mul_one, Nat.add_zero] at HP17)) | ((with_reducible refine gate_store (t := 24) (p := 25) rfl ?_); refine store_event (t := 24) (p := 25) (v := ?vo_w18) (w1 := (w15.setCell ⟨go14, (x6_1 : Int).toNat, none⟩ ((.slice Aq197 y196.length cq197 : Value)))) ?hg ?ho ?hn ?hr ?_; (case ho => rfl); (case hg => rfl); (case hn => rfl); (case hr => (go_simp; done)); intro w18 hw; have hg : w15.grownBy w18 (some go14) := (by rw [hw]; exact HP17.2); have hp_ : Kd.S (Kd.slice 3 (Kd.int .i64)) 24 w18 w.heap.size (fun _ => True) (.slice (some ⟨go14, 0, none⟩) x5_1.length co14) y199 := (by rw [hw, Ny199.out]; exact HP17.1); clear HP17; have n0_ := Aside0.mk (hp_); have n1_ := Aside0.mk ((by rw [hw]; exact below_set (HB.out) GB14.out : Below w.heap.size w w18)); clear HO_5; clear HB; clear HO198; have HO_5 := n0_; have HB := n1_; clear n0_ n1_; clear hg hw hp_))
   go_loopg [7] k1 (fun kq v7 w' => ∃ (x5_2 : List (List Int)) (x7_2 : Int), v7 = .int .i64 x7_2 ∧ Aside0 (impl_costs.l1 kq a0 a1 x5_2 x6_1 x7_2 = some r) ∧ Aside0 (kq ≤ k1) ∧ Aside0 (Kd.S (Kd.slice 3 (Kd.int .i64)) 24 w' w.heap.size (fun _ => True) (.slice (some ⟨go14, 0, none⟩) x5_1.length co14) x5_2) ∧ Aside0 (Below w.heap.size w w'))
   case atStart => exact ⟨(y199), ((a1.size : Int)), (by rfl), H', ⟨Nat.le_refl _⟩, ⟨by (with_reducible repeat (first | apply Kd.S_alloc | apply Kd.S_drewN | apply Kd.S_drew)); exact HO_5.out⟩, ⟨by repeat ((with_reducible exact HB.out))⟩⟩
   case round =>
    clear H'
    try clear c1
    try clear p1
    try clear q1
    try clear hx1
    try clear p2
    try clear c4
    try clear c4b0
    try clear c4b1
    try clear c5
    try clear c5b0
    try clear c5b1
    try clear p6
    try clear c7
    try clear c8
    try clear c8b0
    try clear c10
    try clear c10b0
    try clear c10b1
    try clear c11
    try clear c11b0
    try clear c11b1
    try clear c12
    try clear c12b0
    try clear c13
    try clear c13b0
    try clear c14
    try clear p14
    try clear q14
    try clear hx14
    try clear hf14
    try clear c17
    try clear hx17
    try clear hf17
    try clear hx14_0
    try clear hx17_0
    try clear p14
    try clear p2
    try clear p6
    try clear q14
    obtain ⟨x5_2, x7_2, rfl, HA, HK2, HO_5, HB⟩ := hrel
    have hl5_2 := (Kd.S_reads' HO_5.out).1
    rw [hl5_2] at HO_5
    (try simp only [hl5_2])
    cases gk with
    | zero => exact absurd HA.out (by simp [impl_costs.l1])
    | succ k2 =>
     have H := HA.out
     clear HA
     simp only [impl_costs.l1] at H
     by_cases c19 : x7_2 ≥ 0
     rotate_left
     ·
      rw [if_neg c19] at H
      have c19b0 : decide (0 ≤ x7_2) = false := decide_eq_false c19
      clear c19
      have H' := Aside0.mk H
      clear H
      go_wp2
      (try simp only [← hl5_2])
      go_roundg k2
      case measure => have := HK1.out; have := HK2.out; omega
      case rel => exact ⟨(x5_2), (wrap64 (x6_1 - 1)), (by rfl), H', ⟨by have := HK1.out; have := HK2.out; omega⟩, ⟨by (try simp only [hl5_2]); (with_reducible repeat (first | apply Kd.S_alloc | apply Kd.S_drewN | apply Kd.S_drew)); exact HO_5.out⟩, ⟨by repeat ((with_reducible exact HB.out))⟩⟩
     rw [if_pos c19] at H
     have c19b0 : decide (0 ≤ x7_2) = true := decide_eq_true c19
     clear c19
     by_cases c20 : x6_1 = (a0.size : Int)
     ·
      rw [if_pos c20] at H
      have c20b0 : (x6_1 == (a0.size : Int)) = true := beq_iff_eq.mpr c20
      have c20b1 : (x6_1 != (a0.size : Int)) = false := bne_eq_false_iff_eq.mpr c20
      clear c20
      by_cases c21 : 0 ≤ x6_1
      rotate_left
      ·
       rw [if_neg c21] at H
       exact absurd H (by simp)
      rw [if_pos c21] at H
      have c21b0 : decide (0 ≤ x6_1) = true := decide_eq_true c21
      clear c21
      by_cases c22 : x6_1 < (x5_2.length : Int)
      rotate_left
      ·
       rw [if_neg c22] at H
       exact absurd H (by simp)
      rw [if_pos c22] at H
      have c22b0 : decide (x6_1 < (x5_2.length : Int)) = true := decide_eq_true c22
      clear c22
      by_cases c23 : 0 ≤ x7_2
      rotate_left
      ·
       rw [if_neg c23] at H
       exact absurd H (by simp)
      rw [if_pos c23] at H
      have c23b0 : decide (0 ≤ x7_2) = true := decide_eq_true c23
      clear c23
      by_cases c24 : x7_2 < ((rd_L4 x5_2 x6_1).length : Int)
      rotate_left
      ·
       rw [if_neg c24] at H
       exact absurd H (by simp)
      rw [if_pos c24] at H
      have c24b0 : decide (x7_2 < ((rd_L4 x5_2 x6_1).length : Int)) = true := decide_eq_true c24
      clear c24
      obtain ⟨y201, hy201⟩ : ∃ y_ : List Int, y_ = ((rd_L4 x5_2 x6_1).set (x7_2 : Int).toNat (wrap64 ((a1.size : Int) - x7_2))) := ⟨_, rfl⟩
      replace H : (impl_costs.l1 k2 a0 a1 (x5_2.set (x6_1 : Int).toNat y201) x6_1 (wrap64 (x7_2 - 1))) = some r := by (rw [hy201]; with_reducible exact H)
      have Ny201 := Aside0.mk hy201
      clear hy201
      obtain ⟨y203, hy203⟩ : ∃ y_ : List (List Int), y_ = (x5_2.set (x6_1 : Int).toNat y201) := ⟨_, rfl⟩
      replace H : (impl_costs.l1 k2 a0 a1 y203 x6_1 (wrap64 (x7_2 - 1))) = some r := by (rw [hy203]; with_reducible exact H)
      have Ny203 := Aside0.mk hy203
      clear hy203
      have H' := Aside0.mk H
      clear H
      have p200 : 0 ≤ (x6_1 : Int) := of_decide_eq_true (by (with_reducible assumption))
      have q200 : x6_1 < (x5_2.length : Int) := of_decide_eq_true (by (with_reducible assumption))
      obtain ⟨ad200, A200_0, c200_0, e200, hx200_0, hl200_0, hi200_0⟩ := at_L4 (Kd.S_reads' HO_5.out).2.2 x6_1 p200 q200
      obtain rfl : (⟨go14, 0, none⟩ : Addr) = ad200 := (by injection e200)
      obtain ⟨ce200, hce200, hMe200, hcc200⟩ := Kd.S_get HO_5.out [] x6_1 p200 (by exact q200)
      obtain ⟨ve200_0, rfl, ge200_0⟩ := hMe200
      have hv200_0 := hcc200 0 _ rfl
      rw [Nat.add_zero, show ((Kd.slice 3 (Kd.int .i64))).sz = 1 from rfl, Nat.mul_one] at hv200_0
      replace hv200_0 := Option.some.inj (hv200_0.symm.trans hx200_0)
      rw [hv200_0] at ge200_0
      have HL200_0 := Aside0.mk (show Kd.R (Kd.int .i64) 3 _ _ _ _ (rd_L4 x5_2 x6_1) from ge200_0)
      clear hv200_0 ge200_0
      have HX200_0 := Aside0.mk hx200_0
      clear hcc200 hce200
      (simp only [add_plain] at hx200_0)
      have HR200_0 := Aside0.mk hi200_0
      have HC200_0 := Aside0.mk hl200_0
      clear hi200_0 hl200_0
      replace p200 := eq_true p200
      replace q200 := eq_true q200
      have p25 : 0 ≤ (x7_2 : Int) := of_decide_eq_true (by (with_reducible assumption))
      have q25 : (x7_2 : Int) < (((rd_L4 x5_2 x6_1).length : Int) : Int) := of_decide_eq_true (by (with_reducible assumption))
      obtain ⟨go25, co25, eo25, gb25, gl25, cl25, HG25⟩ := Kd.R_form HL200_0.out (by omega)
      (cases eo25)
      have GB25 := Aside0.mk gb25
      have GG25 := Aside0.mk HG25
      clear gb25 gl25 HG25
      obtain ⟨hx25_0, hf25_0⟩ := Kd.R_celln 0 HL200_0.out (x7_2 : Int) p25 q25
      replace p25 := eq_true p25
      replace q25 := eq_true q25
      have hq26 : (x6_1 : Int) < (x5_2.length : Int) := (by have h_ : (x6_1 : Int) < ((x5_2.length : Int) : Int) := of_decide_eq_true (by (with_reducible assumption)); exact h_)
      obtain ⟨oki26, ce26, hcl26, hM26, hcc26, hok26, hbk26⟩ := Kd.S_borrow HO_5.out [] (x6_1 : Int) (of_decide_eq_true (by (with_reducible assumption))) hq26
      obtain ⟨ve26_0, rfl, ge26_0⟩ := hM26
      have hv26 := hcc26 0 _ rfl
      rw [Nat.add_zero, show ((Kd.slice 3 (Kd.int .i64))).sz = 1 from rfl, Nat.mul_one] at hv26
      replace hv26 := Option.some.inj (hv26.symm.trans HX200_0.out)
      subst hv26
      clear hcc26 hcl26
      replace ge26_0 := (show Kd.R (Kd.int .i64) 3 _ _ _ _ (rd_L4 x5_2 x6_1) from ge26_0)
      have HP26 := Kd.R_putg ge26_0 (x7_2 : Int) (wrap64 ((a1.size : Int) - x7_2))
      go_wp2_with (((with_reducible refine gate_store (t := 3) (p := 90) rfl ?_); refine store_event (t := 3) (p := 90) (v := ?vo_w27) (w1 := (wr.setCell ⟨go25, (x7_2 : Int).toNat, none⟩ (.int .i64 (wrap64 ((a1.size : Int) - x7_2))))) ?hg ?ho ?hn ?hr ?_; (case ho => rfl); (case hg => rfl); (case hn => rfl); (case hr => (go_simp; done)); intro w27 hw; have hg : wr.grownBy w27 (some go25) := (by rw [hw]; exact HP26.2); have hz_ : Kd.R (Kd.int .i64) 3 w27 w.heap.size oki26 (.slice (some ⟨go25, 0, none⟩) (rd_L4 x5_2 x6_1).length c200_0) y201 := (by rw [hw, Ny201.out]; exact HP26.1); have hp_ : Kd.S (Kd.slice 3 (Kd.int .i64)) 24 w27 w.heap.size (fun _ => True) (.slice (some ⟨go14, 0, none⟩) x5_2.length co14) y203 := (by rw [Ny203.out]; exact hbk26 hg (fun k_ e_ => by injection e_ with e_; subst e_; exact ge26_0.1 _ rfl) (Kd.M_row hz_)); have hm_ := Kd.R_mono hz_ hok26; clear HP26 hbk26; have n0_ := Aside0.mk (hp_); have n1_ := Aside0.mk ((by rw [hw]; exact below_set (HB.out) GB25.out : Below w.heap.size w w27)); have n2_ := Aside0.mk (hm_); have n3_ := Aside0.mk ((Kd.R_reads' hm_).2.1); clear HO_5; clear HB; clear HL200_0; have HO_5 := n0_; have HB := n1_; have HL226 := n2_; have HC202 := n3_; clear n0_ n1_ n2_ n3_; clear hg hw hp_ hz_ hm_ hok26))
      (try simp only [← hl5_2])
      go_roundg k2
      case measure => have := HK1.out; have := HK2.out; omega
      case rel => exact ⟨(y203), (wrap64 (x7_2 - 1)), (by rfl), H', ⟨by have := HK1.out; have := HK2.out; omega⟩, ⟨by (try simp only [hl5_2]); (with_reducible repeat (first | apply Kd.S_alloc | apply Kd.S_drewN | apply Kd.S_drew)); exact HO_5.out⟩, ⟨by repeat ((with_reducible exact HB.out))⟩⟩
     rw [if_neg c20] at H
     have c20b0 : (x6_1 == (a0.size : Int)) = false := beq_eq_false_iff_ne.mpr c20
     have c20b1 : (x6_1 != (a0.size : Int)) = true := bne_iff_ne.mpr c20
     by_cases c28 : x7_2 = (a1.size : Int)
     ·
      rw [if_pos c28] at H
      have c28b0 : (x7_2 == (a1.size : Int)) = true := beq_iff_eq.mpr c28
      have c28b1 : (x7_2 != (a1.size : Int)) = false := bne_eq_false_iff_eq.mpr c28
      clear c28
      by_cases c29 : 0 ≤ x6_1
      rotate_left
      ·
       rw [if_neg c29] at H
       exact absurd H (by simp)
      rw [if_pos c29] at H
      have c29b0 : decide (0 ≤ x6_1) = true := decide_eq_true c29
      clear c29
      by_cases c30 : x6_1 < (x5_2.length : Int)
      rotate_left
      ·
       rw [if_neg c30] at H
       exact absurd H (by simp)
      rw [if_pos c30] at H
      have c30b0 : decide (x6_1 < (x5_2.length : Int)) = true := decide_eq_true c30
      clear c30
      by_cases c31 : 0 ≤ x7_2
      rotate_left
      ·
       rw [if_neg c31] at H
       exact absurd H (by simp)
      rw [if_pos c31] at H
      have c31b0 : decide (0 ≤ x7_2) = true := decide_eq_true c31
      clear c31
      by_cases c32 : x7_2 < ((rd_L4 x5_2 x6_1).length : Int)
      rotate_left
      ·
       rw [if_neg c32] at H
       exact absurd H (by simp)
      rw [if_pos c32] at H
      have c32b0 : decide (x7_2 < ((rd_L4 x5_2 x6_1).length : Int)) = true := decide_eq_true c32
      clear c32
      obtain ⟨y205, hy205⟩ : ∃ y_ : List Int, y_ = ((rd_L4 x5_2 x6_1).set (x7_2 : Int).toNat (wrap64 ((a0.size : Int) - x6_1))) := ⟨_, rfl⟩
      replace H : (impl_costs.l1 k2 a0 a1 (x5_2.set (x6_1 : Int).toNat y205) x6_1 (wrap64 (x7_2 - 1))) = some r := by (rw [hy205]; with_reducible exact H)
      have Ny205 := Aside0.mk hy205
      clear hy205
      obtain ⟨y207, hy207⟩ : ∃ y_ : List (List Int), y_ = (x5_2.set (x6_1 : Int).toNat y205) := ⟨_, rfl⟩
      replace H : (impl_costs.l1 k2 a0 a1 y207 x6_1 (wrap64 (x7_2 - 1))) = some r := by (rw [hy207]; with_reducible exact H)
      have Ny207 := Aside0.mk hy207
      clear hy207
      have H' := Aside0.mk H
      clear H
      have p204 : 0 ≤ (x6_1 : Int) := of_decide_eq_true (by (with_reducible assumption))
      have q204 : x6_1 < (x5_2.length : Int) := of_decide_eq_true (by (with_reducible assumption))
      obtain ⟨ad204, A204_0, c204_0, e204, hx204_0, hl204_0, hi204_0⟩ := at_L4 (Kd.S_reads' HO_5.out).2.2 x6_1 p204 q204
      obtain rfl : (⟨go14, 0, none⟩ : Addr) = ad204 := (by injection e204)
      obtain ⟨ce204, hce204, hMe204, hcc204⟩ := Kd.S_get HO_5.out [] x6_1 p204 (by exact q204)
      obtain ⟨ve204_0, rfl, ge204_0⟩ := hMe204
      have hv204_0 := hcc204 0 _ rfl
      rw [Nat.add_zero, show ((Kd.slice 3 (Kd.int .i64))).sz = 1 from rfl, Nat.mul_one] at hv204_0
      replace hv204_0 := Option.some.inj (hv204_0.symm.trans hx204_0)
      rw [hv204_0] at ge204_0
      have HL204_0 := Aside0.mk (show Kd.R (Kd.int .i64) 3 _ _ _ _ (rd_L4 x5_2 x6_1) from ge204_0)
      clear hv204_0 ge204_0
      have HX204_0 := Aside0.mk hx204_0
      clear hcc204 hce204
      (simp only [add_plain] at hx204_0)
      have HR204_0 := Aside0.mk hi204_0
      have HC204_0 := Aside0.mk hl204_0
      clear hi204_0 hl204_0
      replace p204 := eq_true p204
      replace q204 := eq_true q204
      have p33 : 0 ≤ (x7_2 : Int) := of_decide_eq_true (by (with_reducible assumption))
      have q33 : (x7_2 : Int) < (((rd_L4 x5_2 x6_1).length : Int) : Int) := of_decide_eq_true (by (with_reducible assumption))
      obtain ⟨go33, co33, eo33, gb33, gl33, cl33, HG33⟩ := Kd.R_form HL204_0.out (by omega)
      (cases eo33)
      have GB33 := Aside0.mk gb33
      have GG33 := Aside0.mk HG33
      clear gb33 gl33 HG33
      obtain ⟨hx33_0, hf33_0⟩ := Kd.R_celln 0 HL204_0.out (x7_2 : Int) p33 q33
      replace p33 := eq_true p33
      replace q33 := eq_true q33
      have hq34 : (x6_1 : Int) < (x5_2.length : Int) := (by have h_ : (x6_1 : Int) < ((x5_2.length : Int) : Int) := of_decide_eq_true (by (with_reducible assumption)); exact h_)
      obtain ⟨oki34, ce34, hcl34, hM34, hcc34, hok34, hbk34⟩ := Kd.S_borrow HO_5.out [] (x6_1 : Int) (of_decide_eq_true (by (with_reducible assumption))) hq34
      obtain ⟨ve34_0, rfl, ge34_0⟩ := hM34
      have hv34 := hcc34 0 _ rfl
      rw [Nat.add_zero, show ((Kd.slice 3 (Kd.int .i64))).sz = 1 from rfl, Nat.mul_one] at hv34
      replace hv34 := Option.some.inj (hv34.symm.trans HX204_0.out)
      subst hv34
      clear hcc34 hcl34
      replace ge34_0 := (show Kd.R (Kd.int .i64) 3 _ _ _ _ (rd_L4 x5_2 x6_1) from ge34_0)
      have HP34 := Kd.R_putg ge34_0 (x7_2 : Int) (wrap64 ((a0.size : Int) - x6_1))
      go_wp2_with (((with_reducible refine gate_store (t := 3) (p := 105) rfl ?_); refine store_event (t := 3) (p := 105) (v := ?vo_w35) (w1 := (wr.setCell ⟨go33, (x7_2 : Int).toNat, none⟩ (.int .i64 (wrap64 ((a0.size : Int) - x6_1))))) ?hg ?ho ?hn ?hr ?_; (case ho => rfl); (case hg => rfl); (case hn => rfl); (case hr => (go_simp; done)); intro w35 hw; have hg : wr.grownBy w35 (some go33) := (by rw [hw]; exact HP34.2); have hz_ : Kd.R (Kd.int .i64) 3 w35 w.heap.size oki34 (.slice (some ⟨go33, 0, none⟩) (rd_L4 x5_2 x6_1).length c204_0) y205 := (by rw [hw, Ny205.out]; exact HP34.1); have hp_ : Kd.S (Kd.slice 3 (Kd.int .i64)) 24 w35 w.heap.size (fun _ => True) (.slice (some ⟨go14, 0, none⟩) x5_2.length co14) y207 := (by rw [Ny207.out]; exact hbk34 hg (fun k_ e_ => by injection e_ with e_; subst e_; exact ge34_0.1 _ rfl) (Kd.M_row hz_)); have hm_ := Kd.R_mono hz_ hok34; clear HP34 hbk34; have n0_ := Aside0.mk (hp_); have n1_ := Aside0.mk ((by rw [hw]; exact below_set (HB.out) GB33.out : Below w.heap.size w w35)); have n2_ := Aside0.mk (hm_); have n3_ := Aside0.mk ((Kd.R_reads' hm_).2.1); clear HO_5; clear HB; clear HL204_0; have HO_5 := n0_; have HB := n1_; have HL227 := n2_; have HC206 := n3_; clear n0_ n1_ n2_ n3_; clear hg hw hp_ hz_ hm_ hok34))
      (try simp only [← hl5_2])
      go_roundg k2
      case measure => have := HK1.out; have := HK2.out; omega
      case rel => exact ⟨(y207), (wrap64 (x7_2 - 1)), (by rfl), H', ⟨by have := HK1.out; have := HK2.out; omega⟩, ⟨by (try simp only [hl5_2]); (with_reducible repeat (first | apply Kd.S_alloc | apply Kd.S_drewN | apply Kd.S_drew)); exact HO_5.out⟩, ⟨by repeat ((with_reducible exact HB.out))⟩⟩
     rw [if_neg c28] at H
     have c28b0 : (x7_2 == (a1.size : Int)) = false := beq_eq_false_iff_ne.mpr c28
     have c28b1 : (x7_2 != (a1.size : Int)) = true := bne_iff_ne.mpr c28
     obtain ⟨ji36, hji36⟩ : ∃ j_ : Int, (wrap64 (x6_1 + 1)) = j_ := ⟨_, rfl⟩
     replace H : (if 0 ≤ (ji36) then (if (ji36) < (x5_2.length : Int) then (if 0 ≤ (wrap64 (x7_2 + 1)) then (if (wrap64 (x7_2 + 1)) < ((rd_L4 x5_2 (ji36)).length : Int) then (if 0 ≤ x6_1 then (if x6_1 < (a0.size : Int) then (if 0 ≤ x7_2 then (if x7_2 < (a1.size : Int) then (if (bt a0 x6_1) = (bt a1 x7_2) then (if x6_1 < (x5_2.length : Int) then (if x7_2 < ((rd_L4 x5_2 (ji36)).length : Int) then (if (wrap64 (x7_2 + 1)) < ((rd_L4 x5_2 x6_1).length : Int) then (if x7_2 < ((rd_L4 x5_2 x6_1).length : Int) then (impl_costs.l1 k2 a0 a1 (x5_2.set (x6_1 : Int).toNat ((rd_L4 x5_2 x6_1).set (x7_2 : Int).toNat (mn (mn (rd (rd_L4 x5_2 (ji36)) (wrap64 (x7_2 + 1))) (wrap64 ((rd (rd_L4 x5_2 (ji36)) x7_2) + 1))) (wrap64 ((rd (rd_L4 x5_2 x6_1) (wrap64 (x7_2 + 1))) + 1))))) x6_1 (wrap64 (x7_2 - 1))) else (none)) else (none)) else (none)) else (none)) else (if x6_1 < (x5_2.length : Int) then (if x7_2 < ((rd_L4 x5_2 (ji36)).length : Int) then (if (wrap64 (x7_2 + 1)) < ((rd_L4 x5_2 x6_1).length : Int) then (if x7_2 < ((rd_L4 x5_2 x6_1).length : Int) then (impl_costs.l1 k2 a0 a1 (x5_2.set (x6_1 : Int).toNat ((rd_L4 x5_2 x6_1).set (x7_2 : Int).toNat (mn (mn (wrap64 ((rd (rd_L4 x5_2 (ji36)) (wrap64 (x7_2 + 1))) + 1)) (wrap64 ((rd (rd_L4 x5_2 (ji36)) x7_2) + 1))) (wrap64 ((rd (rd_L4 x5_2 x6_1) (wrap64 (x7_2 + 1))) + 1))))) x6_1 (wrap64 (x7_2 - 1))) else (none)) else (none)) else (none)) else (none))) else (none)) else (none)) else (none)) else (none)) else (none)) else (none)) else (none)) else (none)) = some r := by (rw [hji36] at H; exact H)
     have hji36w : (IntKind.i64.wrap (x6_1 + 1)) = ji36 := (i64_w _).trans hji36
     by_cases c37 : 0 ≤ (ji36)
     rotate_left
     ·
      rw [if_neg c37] at H
      exact absurd H (by simp)
     rw [if_pos c37] at H
     have c37b0 : decide (0 ≤ (ji36)) = true := decide_eq_true c37
     clear c37
     by_cases c38 : (ji36) < (x5_2.length : Int)
     rotate_left
     ·
      rw [if_neg c38] at H
      exact absurd H (by simp)
     rw [if_pos c38] at H
     have c38b0 : decide ((ji36) < (x5_2.length : Int)) = true := decide_eq_true c38
     clear c38
     obtain ⟨ji39, hji39⟩ : ∃ j_ : Int, (wrap64 (x7_2 + 1)) = j_ := ⟨_, rfl⟩
     replace H : (if 0 ≤ (ji39) then (if (ji39) < ((rd_L4 x5_2 (ji36)).length : Int) then (if 0 ≤ x6_1 then (if x6_1 < (a0.size : Int) then (if 0 ≤ x7_2 then (if x7_2 < (a1.size : Int) then (if (bt a0 x6_1) = (bt a1 x7_2) then (if x6_1 < (x5_2.length : Int) then (if x7_2 < ((rd_L4 x5_2 (ji36)).length : Int) then (if (ji39) < ((rd_L4 x5_2 x6_1).length : Int) then (if x7_2 < ((rd_L4 x5_2 x6_1).length : Int) then (impl_costs.l1 k2 a0 a1 (x5_2.set (x6_1 : Int).toNat ((rd_L4 x5_2 x6_1).set (x7_2 : Int).toNat (mn (mn (rd (rd_L4 x5_2 (ji36)) (ji39)) (wrap64 ((rd (rd_L4 x5_2 (ji36)) x7_2) + 1))) (wrap64 ((rd (rd_L4 x5_2 x6_1) (ji39)) + 1))))) x6_1 (wrap64 (x7_2 - 1))) else (none)) else (none)) else (none)) else (none)) else (if x6_1 < (x5_2.length : Int) then (if x7_2 < ((rd_L4 x5_2 (ji36)).length : Int) then (if (ji39) < ((rd_L4 x5_2 x6_1).length : Int) then (if x7_2 < ((rd_L4 x5_2 x6_1).length : Int) then (impl_costs.l1 k2 a0 a1 (x5_2.set (x6_1 : Int).toNat ((rd_L4 x5_2 x6_1).set (x7_2 : Int).toNat (mn (mn (wrap64 ((rd (rd_L4 x5_2 (ji36)) (ji39)) + 1)) (wrap64 ((rd (rd_L4 x5_2 (ji36)) x7_2) + 1))) (wrap64 ((rd (rd_L4 x5_2 x6_1) (ji39)) + 1))))) x6_1 (wrap64 (x7_2 - 1))) else (none)) else (none)) else (none)) else (none))) else (none)) else (none)) else (none)) else (none)) else (none)) else (none)) = some r := by (rw [hji39] at H; exact H)
     have hji39w : (IntKind.i64.wrap (x7_2 + 1)) = ji39 := (i64_w _).trans hji39
     by_cases c40 : 0 ≤ (ji39)
     rotate_left
     ·
      rw [if_neg c40] at H
      exact absurd H (by simp)
     rw [if_pos c40] at H
     have c40b0 : decide (0 ≤ (ji39)) = true := decide_eq_true c40
     clear c40
     by_cases c41 : (ji39) < ((rd_L4 x5_2 (ji36)).length : Int)
     rotate_left
     ·
      rw [if_neg c41] at H
      exact absurd H (by simp)
     rw [if_pos c41] at H
     have c41b0 : decide ((ji39) < ((rd_L4 x5_2 (ji36)).length : Int)) = true := decide_eq_true c41
     clear c41
     by_cases c42 : 0 ≤ x6_1
     rotate_left
     ·
      rw [if_neg c42] at H
      exact absurd H (by simp)
     rw [if_pos c42] at H
     have c42b0 : decide (0 ≤ x6_1) = true := decide_eq_true c42
     clear c42
     by_cases c43 : x6_1 < (a0.size : Int)
     rotate_left
     ·
      rw [if_neg c43] at H
      exact absurd H (by simp)
     rw [if_pos c43] at H
     have c43b0 : decide (x6_1 < (a0.size : Int)) = true := decide_eq_true c43
     clear c43
     by_cases c45 : 0 ≤ x7_2
     rotate_left
     ·
      rw [if_neg c45] at H
      exact absurd H (by simp)
     rw [if_pos c45] at H
     have c45b0 : decide (0 ≤ x7_2) = true := decide_eq_true c45
     clear c45
     by_cases c46 : x7_2 < (a1.size : Int)
     rotate_left
     ·
      rw [if_neg c46] at H
      exact absurd H (by simp)
     rw [if_pos c46] at H
     have c46b0 : decide (x7_2 < (a1.size : Int)) = true := decide_eq_true c46
     clear c46
     by_cases c48 : (bt a0 x6_1) = (bt a1 x7_2)
     ·
      rw [if_pos c48] at H
      have c48b0 : ((bt a0 x6_1) == (bt a1 x7_2)) = true := beq_iff_eq.mpr c48
      have c48b1 : ((bt a0 x6_1) != (bt a1 x7_2)) = false := bne_eq_false_iff_eq.mpr c48
      clear c48
      by_cases c49 : x6_1 < (x5_2.length : Int)
      rotate_left
      ·
       rw [if_neg c49] at H
       exact absurd H (by simp)
      rw [if_pos c49] at H
      have c49b0 : decide (x6_1 < (x5_2.length : Int)) = true := decide_eq_true c49
      clear c49
      by_cases c50 : x7_2 < ((rd_L4 x5_2 (ji36)).length : Int)
      rotate_left
      ·
       rw [if_neg c50] at H
       exact absurd H (by simp)
      rw [if_pos c50] at H
      have c50b0 : decide (x7_2 < ((rd_L4 x5_2 (ji36)).length : Int)) = true := decide_eq_true c50
      clear c50
      by_cases c51 : (ji39) < ((rd_L4 x5_2 x6_1).length : Int)
      rotate_left
      ·
       rw [if_neg c51] at H
       exact absurd H (by simp)
      rw [if_pos c51] at H
      have c51b0 : decide ((ji39) < ((rd_L4 x5_2 x6_1).length : Int)) = true := decide_eq_true c51
      clear c51
      obtain ⟨ji52, hji52⟩ : ∃ j_ : Int, (mn (rd (rd_L4 x5_2 (ji36)) (ji39)) (wrap64 ((rd (rd_L4 x5_2 (ji36)) x7_2) + 1))) = j_ := ⟨_, rfl⟩
      replace H : (if x7_2 < ((rd_L4 x5_2 x6_1).length : Int) then (impl_costs.l1 k2 a0 a1 (x5_2.set (x6_1 : Int).toNat ((rd_L4 x5_2 x6_1).set (x7_2 : Int).toNat (mn (ji52) (wrap64 ((rd (rd_L4 x5_2 x6_1) (ji39)) + 1))))) x6_1 (wrap64 (x7_2 - 1))) else (none)) = some r := by (rw [hji52] at H; exact H)
      have hji52_ : (if (wrap64 ((rd (rd_L4 x5_2 (ji36)) x7_2) + 1)) < (rd (rd_L4 x5_2 (ji36)) (ji39)) then (wrap64 ((rd (rd_L4 x5_2 (ji36)) x7_2) + 1)) else (rd (rd_L4 x5_2 (ji36)) (ji39))) = ji52 := hji52
      obtain ⟨ji53, hji53⟩ : ∃ j_ : Int, (mn (ji52) (wrap64 ((rd (rd_L4 x5_2 x6_1) (ji39)) + 1))) = j_ := ⟨_, rfl⟩
      replace H : (if x7_2 < ((rd_L4 x5_2 x6_1).length : Int) then (impl_costs.l1 k2 a0 a1 (x5_2.set (x6_1 : Int).toNat ((rd_L4 x5_2 x6_1).set (x7_2 : Int).toNat (ji53))) x6_1 (wrap64 (x7_2 - 1))) else (none)) = some r := by (rw [hji53] at H; exact H)
      have hji53_ : (if (wrap64 ((rd (rd_L4 x5_2 x6_1) (ji39)) + 1)) < (ji52) then (wrap64 ((rd (rd_L4 x5_2 x6_1) (ji39)) + 1)) else (ji52)) = ji53 := hji53
      by_cases c54 : x7_2 < ((rd_L4 x5_2 x6_1).length : Int)
      rotate_left
      ·
       rw [if_neg c54] at H
       exact absurd H (by simp)
      rw [if_pos c54] at H
      have c54b0 : decide (x7_2 < ((rd_L4 x5_2 x6_1).length : Int)) = true := decide_eq_true c54
      clear c54
      obtain ⟨y215, hy215⟩ : ∃ y_ : List Int, y_ = ((rd_L4 x5_2 x6_1).set (x7_2 : Int).toNat (ji53)) := ⟨_, rfl⟩
      replace H : (impl_costs.l1 k2 a0 a1 (x5_2.set (x6_1 : Int).toNat y215) x6_1 (wrap64 (x7_2 - 1))) = some r := by (rw [hy215]; with_reducible exact H)
      have Ny215 := Aside0.mk hy215
      clear hy215
      obtain ⟨y217, hy217⟩ : ∃ y_ : List (List Int), y_ = (x5_2.set (x6_1 : Int).toNat y215) := ⟨_, rfl⟩
      replace H : (impl_costs.l1 k2 a0 a1 y217 x6_1 (wrap64 (x7_2 - 1))) = some r := by (rw [hy217]; with_reducible exact H)
      have Ny217 := Aside0.mk hy217
      clear hy217
      have H' := Aside0.mk H
      clear H
      have p208 : 0 ≤ ((ji36) : Int) := of_decide_eq_true (by (with_reducible assumption))
      have q208 : (ji36) < (x5_2.length : Int) := of_decide_eq_true (by (with_reducible assumption))
      obtain ⟨ad208, A208_0, c208_0, e208, hx208_0, hl208_0, hi208_0⟩ := at_L4 (Kd.S_reads' HO_5.out).2.2 (ji36) p208 q208
      obtain rfl : (⟨go14, 0, none⟩ : Addr) = ad208 := (by injection e208)
      obtain ⟨ce208, hce208, hMe208, hcc208⟩ := Kd.S_get HO_5.out [] (ji36) p208 (by exact q208)
      obtain ⟨ve208_0, rfl, ge208_0⟩ := hMe208
      have hv208_0 := hcc208 0 _ rfl
      rw [Nat.add_zero, show ((Kd.slice 3 (Kd.int .i64))).sz = 1 from rfl, Nat.mul_one] at hv208_0
      replace hv208_0 := Option.some.inj (hv208_0.symm.trans hx208_0)
      rw [hv208_0] at ge208_0
      have HL208_0 := Aside0.mk (show Kd.R (Kd.int .i64) 3 _ _ _ _ (rd_L4 x5_2 (ji36)) from ge208_0)
      clear hv208_0 ge208_0
      have HX208_0 := Aside0.mk hx208_0
      clear hcc208 hce208
      (simp only [add_plain] at hx208_0)
      have HR208_0 := Aside0.mk hi208_0
      have HC208_0 := Aside0.mk hl208_0
      clear hi208_0 hl208_0
      replace p208 := eq_true p208
      replace q208 := eq_true q208
      have p209 : 0 ≤ ((ji39) : Int) := of_decide_eq_true (by (with_reducible assumption))
      have q209 : (ji39) < ((rd_L4 x5_2 (ji36)).length : Int) := of_decide_eq_true (by (with_reducible assumption))
      obtain ⟨ad209, e209, hx209_0⟩ := Kd.at_int (by repeat ((with_reducible exact HR208_0.out))) (ji39) p209 q209
      cases e209
      replace p209 := eq_true p209
      replace q209 := eq_true q209
      try go_wp2
      replace HO_5 := Aside0.mk (Kd.S_drew HO_5.out)
      replace HL208_0 := Aside0.mk (Kd.R_drew HL208_0.out)
      replace HR208_0 := Aside0.mk (Kd.C_drew HR208_0.out)
      replace HB := Aside0.mk (below_drew1 HB.out)
      have p44 : 0 ≤ (x6_1 : Int) := of_decide_eq_true (by (with_reducible assumption))
      have q44 : x6_1 < (a0.size : Int) := of_decide_eq_true (by (with_reducible assumption))
      have hx44 := bt_at a0 x6_1
      replace p44 := eq_true p44
      replace q44 := eq_true q44
      have p47 : 0 ≤ (x7_2 : Int) := of_decide_eq_true (by (with_reducible assumption))
      have q47 : x7_2 < (a1.size : Int) := of_decide_eq_true (by (with_reducible assumption))
      have hx47 := bt_at a1 x7_2
      replace p47 := eq_true p47
      replace q47 := eq_true q47
      refine start_ (n := 7) (S := fun w' => True) (ds := []) #[false, false, false, false, false, false, false] (by kernel_rfl) rfl rfl trivial (fun hHeld => ?_)
      generalize wr.drew = w56 at HO_5 HL208_0 HR208_0 HB hHeld ⊢
      refine pure_ (i := 0) (N := some 41) (v := ?_) (a' := ?_) #[true, false, false, false, false, false, false] rfl rfl (by kernel_rfl) (fun _ _ _ h => h) (Or.inl ⟨by rfl, ?_⟩) ?_ ?_
      rotate_left
      ·
       intro w'
       go_simp
       with_reducible rfl
      rotate_left
      ·
       simp only [Act.put, List.setIfInBounds_toArray, List.set_cons_zero, List.set_cons_succ, i64_w, i32_w]
       rfl
      refine pure_ (i := 1) (N := some 42) (v := ?_) (a' := ?_) #[true, true, false, false, false, false, false] rfl rfl (by kernel_rfl) (fun _ _ _ h => h) (Or.inl ⟨by rfl, ?_⟩) ?_ ?_
      rotate_left
      ·
       intro w'
       go_simp
       with_reducible rfl
      rotate_left
      ·
       simp only [Act.put, List.setIfInBounds_toArray, List.set_cons_zero, List.set_cons_succ, i64_w, i32_w]
       rfl
      refine pure_ (i := 3) (N := some 44) (v := ?_) (a' := ?_) #[true, true, false, true, false, false, false] rfl rfl (by kernel_rfl) (fun _ _ _ h => h) (Or.inl ⟨by rfl, ?_⟩) ?_ ?_
      rotate_left
      ·
       intro w'
       go_simp
       with_reducible rfl
      rotate_left
      ·
       simp only [Act.put, List.setIfInBounds_toArray, List.set_cons_zero, List.set_cons_succ, i64_w, i32_w]
       rfl
      refine pure_ (i := 4) (N := some 45) (v := ?_) (a' := ?_) #[true, true, false, true, true, false, false] rfl rfl (by kernel_rfl) (fun _ _ _ h => h) (Or.inl ⟨by rfl, ?_⟩) ?_ ?_
      rotate_left
      ·
       intro w'
       go_simp
       with_reducible rfl
      rotate_left
      ·
       simp only [Act.put, List.setIfInBounds_toArray, List.set_cons_zero, List.set_cons_succ, i64_w, i32_w]
       rfl
      refine take_ (i := 2) (N := some 43) (v := ?_) (a' := ?_) #[true, true, true, true, true, false, false] rfl rfl (by kernel_rfl) (fun _ _ _ h => h) (Or.inl ⟨by rfl, ?_⟩) hHeld ?_ ?_
      rotate_left
      ·
       intro w' _
       go_simp
       with_reducible rfl
      rotate_left
      ·
       simp only [Act.put, List.setIfInBounds_toArray, List.set_cons_zero, List.set_cons_succ, i64_w, i32_w]
       rfl
      refine take_ (i := 5) (N := some 46) (v := ?_) (a' := ?_) #[true, true, true, true, true, true, false] rfl rfl (by kernel_rfl) (fun _ _ _ h => h) (Or.inl ⟨by rfl, ?_⟩) hHeld ?_ ?_
      rotate_left
      ·
       intro w' _
       go_simp
       with_reducible rfl
      rotate_left
      ·
       simp only [Act.put, List.setIfInBounds_toArray, List.set_cons_zero, List.set_cons_succ, i64_w, i32_w]
       rfl
      refine pure_ (i := 6) (N := some 47) (v := ?_) (a' := ?_) #[true, true, true, true, true, true, true] rfl rfl (by kernel_rfl) (fun _ _ _ h => h) (Or.inl ⟨by rfl, ?_⟩) ?_ ?_
      rotate_left
      ·
       intro w'
       go_simp
       with_reducible rfl
      rotate_left
      ·
       simp only [Act.put, List.setIfInBounds_toArray, List.set_cons_zero, List.set_cons_succ, i64_w, i32_w]
       rfl
      refine done_ (by kernel_rfl) ?_
      try go_wp2
      replace HO_5 := Aside0.mk (Kd.S_drew HO_5.out)
      replace HL208_0 := Aside0.mk (Kd.R_drew HL208_0.out)
      replace HR208_0 := Aside0.mk (Kd.C_drew HR208_0.out)
      replace HB := Aside0.mk (below_drew1 HB.out)
      have p210 : 0 ≤ (x6_1 : Int) := of_decide_eq_true (by (with_reducible assumption))
      have q210 : x6_1 < (x5_2.length : Int) := of_decide_eq_true (by (with_reducible assumption))
      obtain ⟨ad210, A210_0, c210_0, e210, hx210_0, hl210_0, hi210_0⟩ := at_L4 (Kd.S_reads' HO_5.out).2.2 x6_1 p210 q210
      obtain rfl : (⟨go14, 0, none⟩ : Addr) = ad210 := (by injection e210)
      obtain ⟨ce210, hce210, hMe210, hcc210⟩ := Kd.S_get HO_5.out [] x6_1 p210 (by exact q210)
      obtain ⟨ve210_0, rfl, ge210_0⟩ := hMe210
      have hv210_0 := hcc210 0 _ rfl
      rw [Nat.add_zero, show ((Kd.slice 3 (Kd.int .i64))).sz = 1 from rfl, Nat.mul_one] at hv210_0
      replace hv210_0 := Option.some.inj (hv210_0.symm.trans hx210_0)
      rw [hv210_0] at ge210_0
      have HL210_0 := Aside0.mk (show Kd.R (Kd.int .i64) 3 _ _ _ _ (rd_L4 x5_2 x6_1) from ge210_0)
      clear hv210_0 ge210_0
      have HX210_0 := Aside0.mk hx210_0
      clear hcc210 hce210
      (simp only [add_plain] at hx210_0)
      have HR210_0 := Aside0.mk hi210_0
      have HC210_0 := Aside0.mk hl210_0
      clear hi210_0 hl210_0
      replace p210 := eq_true p210
      replace q210 := eq_true q210
      have p211 : 0 ≤ ((ji36) : Int) := of_decide_eq_true (by (with_reducible assumption))
      have q211 : (ji36) < (x5_2.length : Int) := of_decide_eq_true (by (with_reducible assumption))
      obtain ⟨ad211, A211_0, c211_0, e211, hx211_0, hl211_0, hi211_0⟩ := at_L4 (Kd.S_reads' HO_5.out).2.2 (ji36) p211 q211
      obtain rfl : (⟨go14, 0, none⟩ : Addr) = ad211 := (by injection e211)
      obtain ⟨ce211, hce211, hMe211, hcc211⟩ := Kd.S_get HO_5.out [] (ji36) p211 (by exact q211)
      obtain ⟨ve211_0, rfl, ge211_0⟩ := hMe211
      have hv211_0 := hcc211 0 _ rfl
      rw [Nat.add_zero, show ((Kd.slice 3 (Kd.int .i64))).sz = 1 from rfl, Nat.mul_one] at hv211_0
      replace hv211_0 := Option.some.inj (hv211_0.symm.trans hx211_0)
      rw [hv211_0] at ge211_0
      have HL211_0 := Aside0.mk (show Kd.R (Kd.int .i64) 3 _ _ _ _ (rd_L4 x5_2 (ji36)) from ge211_0)
      clear hv211_0 ge211_0
      have HX211_0 := Aside0.mk hx211_0
      clear hcc211 hce211
      (simp only [add_plain] at hx211_0)
      have HR211_0 := Aside0.mk hi211_0
      have HC211_0 := Aside0.mk hl211_0
      clear hi211_0 hl211_0
      replace p211 := eq_true p211
      replace q211 := eq_true q211
      have p212 : 0 ≤ (x7_2 : Int) := of_decide_eq_true (by (with_reducible assumption))
      have q212 : x7_2 < ((rd_L4 x5_2 (ji36)).length : Int) := of_decide_eq_true (by (with_reducible assumption))
      obtain ⟨ad212, e212, hx212_0⟩ := Kd.at_int (by repeat ((with_reducible exact HR211_0.out))) x7_2 p212 q212
      cases e212
      replace p212 := eq_true p212
      replace q212 := eq_true q212
      have p213 : 0 ≤ (x6_1 : Int) := of_decide_eq_true (by (with_reducible assumption))
      have q213 : x6_1 < (x5_2.length : Int) := of_decide_eq_true (by (with_reducible assumption))
      obtain ⟨ad213, A213_0, c213_0, e213, hx213_0, hl213_0, hi213_0⟩ := at_L4 (Kd.S_reads' HO_5.out).2.2 x6_1 p213 q213
      obtain rfl : (⟨go14, 0, none⟩ : Addr) = ad213 := (by injection e213)
      obtain ⟨ce213, hce213, hMe213, hcc213⟩ := Kd.S_get HO_5.out [] x6_1 p213 (by exact q213)
      obtain ⟨ve213_0, rfl, ge213_0⟩ := hMe213
      have hv213_0 := hcc213 0 _ rfl
      rw [Nat.add_zero, show ((Kd.slice 3 (Kd.int .i64))).sz = 1 from rfl, Nat.mul_one] at hv213_0
      replace hv213_0 := Option.some.inj (hv213_0.symm.trans hx213_0)
      rw [hv213_0] at ge213_0
      have HL213_0 := Aside0.mk (show Kd.R (Kd.int .i64) 3 _ _ _ _ (rd_L4 x5_2 x6_1) from ge213_0)
      clear hv213_0 ge213_0
      have HX213_0 := Aside0.mk hx213_0
      clear hcc213 hce213
      (simp only [add_plain] at hx213_0)
      have HR213_0 := Aside0.mk hi213_0
      have HC213_0 := Aside0.mk hl213_0
      clear hi213_0 hl213_0
      replace p213 := eq_true p213
      replace q213 := eq_true q213
      have ea_ := Option.some.inj (hx210_0.symm.trans hx213_0)
      injection ea_ with ea_ en_ ec_
      subst ea_
      subst ec_
      clear en_
      have p214 : 0 ≤ ((ji39) : Int) := of_decide_eq_true (by (with_reducible assumption))
      have q214 : (ji39) < ((rd_L4 x5_2 x6_1).length : Int) := of_decide_eq_true (by (with_reducible assumption))
      obtain ⟨ad214, e214, hx214_0⟩ := Kd.at_int (by repeat ((with_reducible exact HR213_0.out))) (ji39) p214 q214
      cases e214
      replace p214 := eq_true p214
      replace q214 := eq_true q214
      have p55 : 0 ≤ (x7_2 : Int) := of_decide_eq_true (by (with_reducible assumption))
      have q55 : (x7_2 : Int) < (((rd_L4 x5_2 x6_1).length : Int) : Int) := of_decide_eq_true (by (with_reducible assumption))
      obtain ⟨go55, co55, eo55, gb55, gl55, cl55, HG55⟩ := Kd.R_form HL210_0.out (by omega)
      (cases eo55)
      have GB55 := Aside0.mk gb55
      have GG55 := Aside0.mk HG55
      clear gb55 gl55 HG55
      (simp only [add_plain] at hx214_0)
      obtain ⟨hx55_0, hf55_0⟩ := Kd.R_celln 0 HL210_0.out (x7_2 : Int) p55 q55
      replace p55 := eq_true p55
      replace q55 := eq_true q55
      have hq58 : (x6_1 : Int) < (x5_2.length : Int) := (by have h_ : (x6_1 : Int) < ((x5_2.length : Int) : Int) := of_decide_eq_true (by (with_reducible assumption)); exact h_)
      obtain ⟨oki58, ce58, hcl58, hM58, hcc58, hok58, hbk58⟩ := Kd.S_borrow HO_5.out [] (x6_1 : Int) (of_decide_eq_true (by (with_reducible assumption))) hq58
      obtain ⟨ve58_0, rfl, ge58_0⟩ := hM58
      have hv58 := hcc58 0 _ rfl
      rw [Nat.add_zero, show ((Kd.slice 3 (Kd.int .i64))).sz = 1 from rfl, Nat.mul_one] at hv58
      replace hv58 := Option.some.inj (hv58.symm.trans HX210_0.out)
      subst hv58
      clear hcc58 hcl58
      replace ge58_0 := (show Kd.R (Kd.int .i64) 3 _ _ _ _ (rd_L4 x5_2 x6_1) from ge58_0)
      have HP58 := Kd.R_putg ge58_0 (x7_2 : Int) ji53
      rw [← Ny215.out] at HP58
      have HS58 := hbk58 HP58.2 (fun k_ e_ => by injection e_ with e_; subst e_; exact ge58_0.1 _ rfl) (x' := y215) (Kd.M_row HP58.1)
      rw [← Ny217.out] at HS58
      have HQ58 := Aside0.mk HS58
      clear HP58 HS58 hbk58 hok58
      refine start_ (n := 27) (S := fun w' => w'.cell? ⟨go14, (x6_1).toNat, none⟩ = some (.slice (some ⟨go55, 0, none⟩) (rd_L4 x5_2 x6_1).length c210_0) ∧ w'.cell? ⟨go14, ((ji36)).toNat, none⟩ = some (.slice (some ad212) (rd_L4 x5_2 (ji36)).length c211_0) ∧ w'.cell? (ad212.add (x7_2).toNat) = some (.int .i64 (rd (rd_L4 x5_2 (ji36)) x7_2)) ∧ w'.cell? ⟨go14, (x6_1).toNat, none⟩ = some (.slice (some ⟨go55, 0, none⟩) (rd_L4 x5_2 x6_1).length c210_0) ∧ w'.cell? ⟨go55, ((ji39)).toNat, none⟩ = some (.int .i64 (rd (rd_L4 x5_2 x6_1) (ji39)))) (ds := [26]) #[false, false, false, false, false, false, false, false, false, false, false, false, false, false, false, false, false, false, false, false, false, false, false, false, false, false, false] (by kernel_rfl) rfl rfl ⟨hx210_0, hx211_0, hx212_0, hx213_0, hx214_0⟩ (fun hHeld => ?_); refine with_tabW impl_costs.tab12 impl_costs.bits12 (fun HT_ HW_ => ?_)
      generalize w56.drew = w57 at HO_5 HL208_0 HR208_0 HB GG55 HL210_0 HL211_0 HL213_0 HQ58 HR210_0 HR211_0 HR213_0 HX210_0 HX211_0 HX213_0 hf55_0 hx210_0 hx211_0 hx212_0 hx213_0 hx214_0 hx55_0 hHeld ⊢
      refine pure_ (i := 0) (N := some 50) (v := ?_) (a' := ?_) #[true, false, false, false, false, false, false, false, false, false, false, false, false, false, false, false, false, false, false, false, false, false, false, false, false, false, false] rfl rfl (any_of HT_.out (by kernel_rfl)) (fun _ _ _ h => h) (Or.inl ⟨by rfl, ?_⟩) ?_ ?_
      rotate_left
      ·
       intro w'
       go_simp
       with_reducible rfl
      rotate_left
      ·
       simp only [Act.put, List.setIfInBounds_toArray, List.set_cons_zero, List.set_cons_succ, i64_w, i32_w]
       rfl
      refine pure_ (i := 1) (N := some 51) (v := ?_) (a' := ?_) #[true, true, false, false, false, false, false, false, false, false, false, false, false, false, false, false, false, false, false, false, false, false, false, false, false, false, false] rfl rfl (any_of HT_.out (by kernel_rfl)) (fun _ _ _ h => h) (Or.inl ⟨by rfl, ?_⟩) ?_ ?_
      rotate_left
      ·
       intro w'
       go_simp
       with_reducible rfl
      rotate_left
      ·
       simp only [Act.put, List.setIfInBounds_toArray, List.set_cons_zero, List.set_cons_succ, i64_w, i32_w]
       rfl
      refine pure_ (i := 2) (N := some 52) (v := ?_) (a' := ?_) #[true, true, true, false, false, false, false, false, false, false, false, false, false, false, false, false, false, false, false, false, false, false, false, false, false, false, false] rfl rfl (any_of HT_.out (by kernel_rfl)) (fun _ _ _ h => h) (Or.inl ⟨by rfl, ?_⟩) ?_ ?_
      rotate_left
      ·
       intro w'
       go_simp
       with_reducible rfl
      rotate_left
      ·
       simp only [Act.put, List.setIfInBounds_toArray, List.set_cons_zero, List.set_cons_succ, i64_w, i32_w]
       rfl
      refine pure_ (i := 4) (N := some 54) (v := ?_) (a' := ?_) #[true, true, true, false, true, false, false, false, false, false, false, false, false, false, false, false, false, false, false, false, false, false, false, false, false, false, false] rfl rfl (any_of HT_.out (by kernel_rfl)) (fun _ _ _ h => h) (Or.inl ⟨by rfl, ?_⟩) ?_ ?_
      rotate_left
      ·
       intro w'
       go_simp
       with_reducible rfl
      rotate_left
      ·
       simp only [Act.put, List.setIfInBounds_toArray, List.set_cons_zero, List.set_cons_succ, i64_w, i32_w]
       rfl
      refine pure_ (i := 5) (N := some 55) (v := ?_) (a' := ?_) #[true, true, true, false, true, true, false, false, false, false, false, false, false, false, false, false, false, false, false, false, false, false, false, false, false, false, false] rfl rfl (any_of HT_.out (by kernel_rfl)) (fun _ _ _ h => h) (Or.inl ⟨by rfl, ?_⟩) ?_ ?_
      rotate_left
      ·
       intro w'
       go_simp
       with_reducible rfl
      rotate_left
      ·
       simp only [Act.put, List.setIfInBounds_toArray, List.set_cons_zero, List.set_cons_succ, i64_w, i32_w]
       rfl
      refine pure_ (i := 6) (N := some 56) (v := ?_) (a' := ?_) #[true, true, true, false, true, true, true, false, false, false, false, false, false, false, false, false, false, false, false, false, false, false, false, false, false, false, false] rfl rfl (any_of HT_.out (by kernel_rfl)) (fun _ _ _ h => h) (Or.inl ⟨by rfl, ?_⟩) ?_ ?_
      rotate_left
      ·
       intro w'
       go_simp
       with_reducible rfl
      rotate_left
      ·
       simp only [Act.put, List.setIfInBounds_toArray, List.set_cons_zero, List.set_cons_succ, i64_w, i32_w]
       rfl
      refine pure_ (i := 7) (N := some 57) (v := ?_) (a' := ?_) #[true, true, true, false, true, true, true, true, false, false, false, false, false, false, false, false, false, false, false, false, false, false, false, false, false, false, false] rfl rfl (any_of HT_.out (by kernel_rfl)) (fun _ _ _ h => h) (Or.inl ⟨by rfl, ?_⟩) ?_ ?_
      rotate_left
      ·
       intro w'
       go_simp
       with_reducible rfl
      rotate_left
      ·
       simp only [Act.put, List.setIfInBounds_toArray, List.set_cons_zero, List.set_cons_succ, i64_w, i32_w]
       rfl
      refine pure_ (i := 8) (N := some 58) (v := ?_) (a' := ?_) #[true, true, true, false, true, true, true, true, true, false, false, false, false, false, false, false, false, false, false, false, false, false, false, false, false, false, false] rfl rfl (any_of HT_.out (by kernel_rfl)) (fun _ _ _ h => h) (Or.inl ⟨by rfl, ?_⟩) ?_ ?_
      rotate_left
      ·
       intro w'
       go_simp
       with_reducible rfl
      rotate_left
      ·
       simp only [Act.put, List.setIfInBounds_toArray, List.set_cons_zero, List.set_cons_succ, i64_w, i32_w]
       rfl
      refine pure_ (i := 9) (N := some 59) (v := ?_) (a' := ?_) #[true, true, true, false, true, true, true, true, true, true, false, false, false, false, false, false, false, false, false, false, false, false, false, false, false, false, false] rfl rfl (any_of HT_.out (by kernel_rfl)) (fun _ _ _ h => h) (Or.inl ⟨by rfl, ?_⟩) ?_ ?_
      rotate_left
      ·
       intro w'
       go_simp
       with_reducible rfl
      rotate_left
      ·
       simp only [Act.put, List.setIfInBounds_toArray, List.set_cons_zero, List.set_cons_succ, i64_w, i32_w]
       rfl
      refine pure_ (i := 11) (N := some 61) (v := ?_) (a' := ?_) #[true, true, true, false, true, true, true, true, true, true, false, true, false, false, false, false, false, false, false, false, false, false, false, false, false, false, false] rfl rfl (any_of HT_.out (by kernel_rfl)) (fun _ _ _ h => h) (Or.inl ⟨by rfl, ?_⟩) ?_ ?_
      rotate_left
      ·
       intro w'
       go_simp
       with_reducible rfl
      rotate_left
      ·
       simp only [Act.put, List.setIfInBounds_toArray, List.set_cons_zero, List.set_cons_succ, i64_w, i32_w]
       rfl
      refine pure_ (i := 15) (N := some 65) (v := ?_) (a' := ?_) #[true, true, true, false, true, true, true, true, true, true, false, true, false, false, false, true, false, false, false, false, false, false, false, false, false, false, false] rfl rfl (any_of HT_.out (by kernel_rfl)) (fun _ _ _ h => h) (Or.inl ⟨by rfl, ?_⟩) ?_ ?_
      rotate_left
      ·
       intro w'
       go_simp
       with_reducible rfl
      rotate_left
      ·
       simp only [Act.put, List.setIfInBounds_toArray, List.set_cons_zero, List.set_cons_succ, i64_w, i32_w]
       rfl
      refine pure_ (i := 16) (N := some 66) (v := ?_) (a' := ?_) #[true, true, true, false, true, true, true, true, true, true, false, true, false, false, false, true, true, false, false, false, false, false, false, false, false, false, false] rfl rfl (any_of HT_.out (by kernel_rfl)) (fun _ _ _ h => h) (Or.inl ⟨by rfl, ?_⟩) ?_ ?_
      rotate_left
      ·
       intro w'
       go_simp
       with_reducible rfl
      rotate_left
      ·
       simp only [Act.put, List.setIfInBounds_toArray, List.set_cons_zero, List.set_cons_succ, i64_w, i32_w]
       rfl
      refine pure_ (i := 17) (N := some 67) (v := ?_) (a' := ?_) #[true, true, true, false, true, true, true, true, true, true, false, true, false, false, false, true, true, true, false, false, false, false, false, false, false, false, false] rfl rfl (any_of HT_.out (by kernel_rfl)) (fun _ _ _ h => h) (Or.inl ⟨by rfl, ?_⟩) ?_ ?_
      rotate_left
      ·
       intro w'
       go_simp
       with_reducible rfl
      rotate_left
      ·
       simp only [Act.put, List.setIfInBounds_toArray, List.set_cons_zero, List.set_cons_succ, i64_w, i32_w]
       rfl
      refine pure_ (i := 19) (N := some 69) (v := ?_) (a' := ?_) #[true, true, true, false, true, true, true, true, true, true, false, true, false, false, false, true, true, true, false, true, false, false, false, false, false, false, false] rfl rfl (any_of HT_.out (by kernel_rfl)) (fun _ _ _ h => h) (Or.inl ⟨by rfl, ?_⟩) ?_ ?_
      rotate_left
      ·
       intro w'
       go_simp
       with_reducible rfl
      rotate_left
      ·
       simp only [Act.put, List.setIfInBounds_toArray, List.set_cons_zero, List.set_cons_succ, i64_w, i32_w]
       rfl
      refine pure_ (i := 20) (N := some 70) (v := ?_) (a' := ?_) #[true, true, true, false, true, true, true, true, true, true, false, true, false, false, false, true, true, true, false, true, true, false, false, false, false, false, false] rfl rfl (any_of HT_.out (by kernel_rfl)) (fun _ _ _ h => h) (Or.inl ⟨by rfl, ?_⟩) ?_ ?_
      rotate_left
      ·
       intro w'
       go_simp
       with_reducible rfl
      rotate_left
      ·
       simp only [Act.put, List.setIfInBounds_toArray, List.set_cons_zero, List.set_cons_succ, i64_w, i32_w]
       rfl
      refine take_ (i := 3) (N := some 53) (v := ?_) (a' := ?_) #[true, true, true, true, true, true, true, true, true, true, false, true, false, false, false, true, true, true, false, true, true, false, false, false, false, false, false] rfl rfl (take_ofW HT_.out HW_.out (by kernel_rfl)) (fun _ _ _ h => h) (Or.inl ⟨by rfl, ?_⟩) hHeld ?_ ?_
      rotate_left
      ·
       rintro w' ⟨s0, s1, s2, s3, s4⟩
       go_simp
       with_reducible rfl
      rotate_left
      ·
       simp only [Act.put, List.setIfInBounds_toArray, List.set_cons_zero, List.set_cons_succ, i64_w, i32_w]
       rfl
      refine take_ (i := 10) (N := some 60) (v := ?_) (a' := ?_) #[true, true, true, true, true, true, true, true, true, true, true, true, false, false, false, true, true, true, false, true, true, false, false, false, false, false, false] rfl rfl (take_ofW HT_.out HW_.out (by kernel_rfl)) (fun _ _ _ h => h) (Or.inl ⟨by rfl, ?_⟩) hHeld ?_ ?_
      rotate_left
      ·
       rintro w' ⟨s0, s1, s2, s3, s4⟩
       go_simp
       with_reducible rfl
      rotate_left
      ·
       simp only [Act.put, List.setIfInBounds_toArray, List.set_cons_zero, List.set_cons_succ, i64_w, i32_w]
       rfl
      refine pure_ (i := 12) (N := some 62) (v := ?_) (a' := ?_) #[true, true, true, true, true, true, true, true, true, true, true, true, true, false, false, true, true, true, false, true, true, false, false, false, false, false, false] rfl rfl (any_of HT_.out (by kernel_rfl)) (fun _ _ _ h => h) (Or.inl ⟨by rfl, ?_⟩) ?_ ?_
      rotate_left
      ·
       intro w'
       go_simp
       with_reducible rfl
      rotate_left
      ·
       simp only [Act.put, List.setIfInBounds_toArray, List.set_cons_zero, List.set_cons_succ, i64_w, i32_w]
       rfl
      refine take_ (i := 13) (N := some 63) (v := ?_) (a' := ?_) #[true, true, true, true, true, true, true, true, true, true, true, true, true, true, false, true, true, true, false, true, true, false, false, false, false, false, false] rfl rfl (take_ofW HT_.out HW_.out (by kernel_rfl)) (fun _ _ _ h => h) (Or.inl ⟨by rfl, ?_⟩) hHeld ?_ ?_
      rotate_left
      ·
       rintro w' ⟨s0, s1, s2, s3, s4⟩
       go_simp
       with_reducible rfl
      rotate_left
      ·
       simp only [Act.put, List.setIfInBounds_toArray, List.set_cons_zero, List.set_cons_succ, i64_w, i32_w]
       rfl
      refine pure_ (i := 14) (N := some 64) (v := ?_) (a' := ?_) #[true, true, true, true, true, true, true, true, true, true, true, true, true, true, true, true, true, true, false, true, true, false, false, false, false, false, false] rfl rfl (any_of HT_.out (by kernel_rfl)) (fun _ _ _ h => h) (Or.inl ⟨by rfl, ?_⟩) ?_ ?_
      rotate_left
      ·
       intro w'
       go_simp
       with_reducible rfl
      rotate_left
      ·
       simp only [Act.put, List.setIfInBounds_toArray, List.set_cons_zero, List.set_cons_succ, i64_w, i32_w]
       rfl
      refine take_ (i := 18) (N := some 68) (v := ?_) (a' := ?_) #[true, true, true, true, true, true, true, true, true, true, true, true, true, true, true, true, true, true, true, true, true, false, false, false, false, false, false] rfl rfl (take_ofW HT_.out HW_.out (by kernel_rfl)) (fun _ _ _ h => h) (Or.inl ⟨by rfl, ?_⟩) hHeld ?_ ?_
      rotate_left
      ·
       rintro w' ⟨s0, s1, s2, s3, s4⟩
       go_simp
       with_reducible rfl
      rotate_left
      ·
       simp only [Act.put, List.setIfInBounds_toArray, List.set_cons_zero, List.set_cons_succ, i64_w, i32_w]
       rfl
      refine pure_ (i := 21) (N := some 71) (v := ?_) (a' := ?_) #[true, true, true, true, true, true, true, true, true, true, true, true, true, true, true, true, true, true, true, true, true, true, false, false, false, false, false] rfl rfl (any_of HT_.out (by kernel_rfl)) (fun _ _ _ h => h) (Or.inl ⟨by rfl, ?_⟩) ?_ ?_
      rotate_left
      ·
       intro w'
       go_simp
       with_reducible rfl
      rotate_left
      ·
       simp only [Act.put, List.setIfInBounds_toArray, List.set_cons_zero, List.set_cons_succ, i64_w, i32_w]
       rfl
      refine take_ (i := 22) (N := some 72) (v := ?_) (a' := ?_) #[true, true, true, true, true, true, true, true, true, true, true, true, true, true, true, true, true, true, true, true, true, true, true, false, false, false, false] rfl rfl (take_ofW HT_.out HW_.out (by kernel_rfl)) (fun _ _ _ h => h) (Or.inl ⟨by rfl, ?_⟩) hHeld ?_ ?_
      rotate_left
      ·
       rintro w' ⟨s0, s1, s2, s3, s4⟩
       go_simp
       with_reducible rfl
      rotate_left
      ·
       simp only [Act.put, List.setIfInBounds_toArray, List.set_cons_zero, List.set_cons_succ, i64_w, i32_w]
       rfl
      refine pure_ (i := 23) (N := some 73) (v := ?_) (a' := ?_) #[true, true, true, true, true, true, true, true, true, true, true, true, true, true, true, true, true, true, true, true, true, true, true, true, false, false, false] rfl rfl (any_of HT_.out (by kernel_rfl)) (fun _ _ _ h => h) (Or.inl ⟨by rfl, ?_⟩) ?_ ?_
      rotate_left
      ·
       intro w'
       go_simp
       with_reducible rfl
      rotate_left
      ·
       simp only [Act.put, List.setIfInBounds_toArray, List.set_cons_zero, List.set_cons_succ, i64_w, i32_w]
       rfl
      refine pure_ (i := 24) (N := some 74) (v := ?_) (a' := ?_) #[true, true, true, true, true, true, true, true, true, true, true, true, true, true, true, true, true, true, true, true, true, true, true, true, true, false, false] rfl rfl (any_of HT_.out (by kernel_rfl)) (fun _ _ _ h => h) (Or.inl ⟨by rfl, ?_⟩) ?_ ?_
      rotate_left
      ·
       intro w'
       go_simp
       with_reducible rfl
      rotate_left
      ·
       simp only [Act.put, List.setIfInBounds_toArray, List.set_cons_zero, List.set_cons_succ, i64_w, i32_w]
       rfl
      refine pure_ (i := 25) (N := some 75) (v := ?_) (a' := ?_) #[true, true, true, true, true, true, true, true, true, true, true, true, true, true, true, true, true, true, true, true, true, true, true, true, true, true, false] rfl rfl (any_of HT_.out (by kernel_rfl)) (fun _ _ _ h => h) (Or.inl ⟨by rfl, ?_⟩) ?_ ?_
      rotate_left
      ·
       intro w'
       go_simp
       with_reducible rfl
      rotate_left
      ·
       simp only [Act.put, List.setIfInBounds_toArray, List.set_cons_zero, List.set_cons_succ, i64_w, i32_w]
       rfl
      refine last_ (i := 26) (N := none) #[true, true, true, true, true, true, true, true, true, true, true, true, true, true, true, true, true, true, true, true, true, true, true, true, true, true, true] rfl rfl (one_of HT_.out (by kernel_rfl)) (by decide) (fun K hK => ?_)
      refine skip_ (w1 := ?_) (by rfl) rfl ?_ ?_
      rotate_left
      ·
       go_simp
       rfl
      refine hK.out _ _ ?_
      clear hK K
      refine done_ (done_of HT_.out (by kernel_rfl)) ?_
      try go_wp2
      (try simp only [← hl5_2])
      go_roundg k2
      case measure => have := HK1.out; have := HK2.out; omega
      case rel => exact ⟨(y217), (wrap64 (x7_2 - 1)), (by rfl), H', ⟨by have := HK1.out; have := HK2.out; omega⟩, ⟨by (try simp only [hl5_2]); (with_reducible repeat (first | apply Kd.S_alloc | apply Kd.S_drewN | apply Kd.S_drew)); exact HQ58.out⟩, ⟨by repeat ((with_reducible first | exact HB.out | refine below_set ?_ GB55.out))⟩⟩
     rw [if_neg c48] at H
     have c48b0 : ((bt a0 x6_1) == (bt a1 x7_2)) = false := beq_eq_false_iff_ne.mpr c48
     have c48b1 : ((bt a0 x6_1) != (bt a1 x7_2)) = true := bne_iff_ne.mpr c48
     by_cases c60 : x6_1 < (x5_2.length : Int)
     rotate_left
     ·
      rw [if_neg c60] at H
      exact absurd H (by simp)
     rw [if_pos c60] at H
     have c60b0 : decide (x6_1 < (x5_2.length : Int)) = true := decide_eq_true c60
     clear c60
     by_cases c61 : x7_2 < ((rd_L4 x5_2 (ji36)).length : Int)
     rotate_left
     ·
      rw [if_neg c61] at H
      exact absurd H (by simp)
     rw [if_pos c61] at H
     have c61b0 : decide (x7_2 < ((rd_L4 x5_2 (ji36)).length : Int)) = true := decide_eq_true c61
     clear c61
     by_cases c62 : (ji39) < ((rd_L4 x5_2 x6_1).length : Int)
     rotate_left
     ·
      rw [if_neg c62] at H
      exact absurd H (by simp)
     rw [if_pos c62] at H
     have c62b0 : decide ((ji39) < ((rd_L4 x5_2 x6_1).length : Int)) = true := decide_eq_true c62
     clear c62
     obtain ⟨ji63, hji63⟩ : ∃ j_ : Int, (mn (wrap64 ((rd (rd_L4 x5_2 (ji36)) (ji39)) + 1)) (wrap64 ((rd (rd_L4 x5_2 (ji36)) x7_2) + 1))) = j_ := ⟨_, rfl⟩
     replace H : (if x7_2 < ((rd_L4 x5_2 x6_1).length : Int) then (impl_costs.l1 k2 a0 a1 (x5_2.set (x6_1 : Int).toNat ((rd_L4 x5_2 x6_1).set (x7_2 : Int).toNat (mn (ji63) (wrap64 ((rd (rd_L4 x5_2 x6_1) (ji39)) + 1))))) x6_1 (wrap64 (x7_2 - 1))) else (none)) = some r := by (rw [hji63] at H; exact H)
     have hji63_ : (if (wrap64 ((rd (rd_L4 x5_2 (ji36)) x7_2) + 1)) < (wrap64 ((rd (rd_L4 x5_2 (ji36)) (ji39)) + 1)) then (wrap64 ((rd (rd_L4 x5_2 (ji36)) x7_2) + 1)) else (wrap64 ((rd (rd_L4 x5_2 (ji36)) (ji39)) + 1))) = ji63 := hji63
     obtain ⟨ji64, hji64⟩ : ∃ j_ : Int, (mn (ji63) (wrap64 ((rd (rd_L4 x5_2 x6_1) (ji39)) + 1))) = j_ := ⟨_, rfl⟩
     replace H : (if x7_2 < ((rd_L4 x5_2 x6_1).length : Int) then (impl_costs.l1 k2 a0 a1 (x5_2.set (x6_1 : Int).toNat ((rd_L4 x5_2 x6_1).set (x7_2 : Int).toNat (ji64))) x6_1 (wrap64 (x7_2 - 1))) else (none)) = some r := by (rw [hji64] at H; exact H)
     have hji64_ : (if (wrap64 ((rd (rd_L4 x5_2 x6_1) (ji39)) + 1)) < (ji63) then (wrap64 ((rd (rd_L4 x5_2 x6_1) (ji39)) + 1)) else (ji63)) = ji64 := hji64
     by_cases c65 : x7_2 < ((rd_L4 x5_2 x6_1).length : Int)
     rotate_left
     ·
      rw [if_neg c65] at H
      exact absurd H (by simp)
     rw [if_pos c65] at H
     have c65b0 : decide (x7_2 < ((rd_L4 x5_2 x6_1).length : Int)) = true := decide_eq_true c65
     clear c65
     obtain ⟨y223, hy223⟩ : ∃ y_ : List Int, y_ = ((rd_L4 x5_2 x6_1).set (x7_2 : Int).toNat (ji64)) := ⟨_, rfl⟩
     replace H : (impl_costs.l1 k2 a0 a1 (x5_2.set (x6_1 : Int).toNat y223) x6_1 (wrap64 (x7_2 - 1))) = some r := by (rw [hy223]; with_reducible exact H)
     have Ny223 := Aside0.mk hy223
     clear hy223
     obtain ⟨y225, hy225⟩ : ∃ y_ : List (List Int), y_ = (x5_2.set (x6_1 : Int).toNat y223) := ⟨_, rfl⟩
     replace H : (impl_costs.l1 k2 a0 a1 y225 x6_1 (wrap64 (x7_2 - 1))) = some r := by (rw [hy225]; with_reducible exact H)
     have Ny225 := Aside0.mk hy225
     clear hy225
     have H' := Aside0.mk H
     clear H
     have p208 : 0 ≤ ((ji36) : Int) := of_decide_eq_true (by (with_reducible assumption))
     have q208 : (ji36) < (x5_2.length : Int) := of_decide_eq_true (by (with_reducible assumption))
     obtain ⟨ad208, A208_0, c208_0, e208, hx208_0, hl208_0, hi208_0⟩ := at_L4 (Kd.S_reads' HO_5.out).2.2 (ji36) p208 q208
     obtain rfl : (⟨go14, 0, none⟩ : Addr) = ad208 := (by injection e208)
     obtain ⟨ce208, hce208, hMe208, hcc208⟩ := Kd.S_get HO_5.out [] (ji36) p208 (by exact q208)
     obtain ⟨ve208_0, rfl, ge208_0⟩ := hMe208
     have hv208_0 := hcc208 0 _ rfl
     rw [Nat.add_zero, show ((Kd.slice 3 (Kd.int .i64))).sz = 1 from rfl, Nat.mul_one] at hv208_0
     replace hv208_0 := Option.some.inj (hv208_0.symm.trans hx208_0)
     rw [hv208_0] at ge208_0
     have HL208_0 := Aside0.mk (show Kd.R (Kd.int .i64) 3 _ _ _ _ (rd_L4 x5_2 (ji36)) from ge208_0)
     clear hv208_0 ge208_0
     have HX208_0 := Aside0.mk hx208_0
     clear hcc208 hce208
     (simp only [add_plain] at hx208_0)
     have HR208_0 := Aside0.mk hi208_0
     have HC208_0 := Aside0.mk hl208_0
     clear hi208_0 hl208_0
     replace p208 := eq_true p208
     replace q208 := eq_true q208
     have p209 : 0 ≤ ((ji39) : Int) := of_decide_eq_true (by (with_reducible assumption))
     have q209 : (ji39) < ((rd_L4 x5_2 (ji36)).length : Int) := of_decide_eq_true (by (with_reducible assumption))
     obtain ⟨ad209, e209, hx209_0⟩ := Kd.at_int (by repeat ((with_reducible exact HR208_0.out))) (ji39) p209 q209
     cases e209
     replace p209 := eq_true p209
     replace q209 := eq_true q209
     try go_wp2
     replace HO_5 := Aside0.mk (Kd.S_drew HO_5.out)
     replace HL208_0 := Aside0.mk (Kd.R_drew HL208_0.out)
     replace HR208_0 := Aside0.mk (Kd.C_drew HR208_0.out)
     replace HB := Aside0.mk (below_drew1 HB.out)
     have p44 : 0 ≤ (x6_1 : Int) := of_decide_eq_true (by (with_reducible assumption))
     have q44 : x6_1 < (a0.size : Int) := of_decide_eq_true (by (with_reducible assumption))
     have hx44 := bt_at a0 x6_1
     replace p44 := eq_true p44
     replace q44 := eq_true q44
     have p47 : 0 ≤ (x7_2 : Int) := of_decide_eq_true (by (with_reducible assumption))
     have q47 : x7_2 < (a1.size : Int) := of_decide_eq_true (by (with_reducible assumption))
     have hx47 := bt_at a1 x7_2
     replace p47 := eq_true p47
     replace q47 := eq_true q47
     refine start_ (n := 7) (S := fun w' => True) (ds := []) #[false, false, false, false, false, false, false] (by kernel_rfl) rfl rfl trivial (fun hHeld => ?_)
     generalize wr.drew = w67 at HO_5 HL208_0 HR208_0 HB hHeld ⊢
     refine pure_ (i := 0) (N := some 41) (v := ?_) (a' := ?_) #[true, false, false, false, false, false, false] rfl rfl (by kernel_rfl) (fun _ _ _ h => h) (Or.inl ⟨by rfl, ?_⟩) ?_ ?_
     rotate_left
     ·
      intro w'
      go_simp
      with_reducible rfl
     rotate_left
     ·
      simp only [Act.put, List.setIfInBounds_toArray, List.set_cons_zero, List.set_cons_succ, i64_w, i32_w]
      rfl
     refine pure_ (i := 1) (N := some 42) (v := ?_) (a' := ?_) #[true, true, false, false, false, false, false] rfl rfl (by kernel_rfl) (fun _ _ _ h => h) (Or.inl ⟨by rfl, ?_⟩) ?_ ?_
     rotate_left
     ·
      intro w'
      go_simp
      with_reducible rfl
     rotate_left
     ·
      simp only [Act.put, List.setIfInBounds_toArray, List.set_cons_zero, List.set_cons_succ, i64_w, i32_w]
      rfl
     refine pure_ (i := 3) (N := some 44) (v := ?_) (a' := ?_) #[true, true, false, true, false, false, false] rfl rfl (by kernel_rfl) (fun _ _ _ h => h) (Or.inl ⟨by rfl, ?_⟩) ?_ ?_
     rotate_left
     ·
      intro w'
      go_simp
      with_reducible rfl
     rotate_left
     ·
      simp only [Act.put, List.setIfInBounds_toArray, List.set_cons_zero, List.set_cons_succ, i64_w, i32_w]
      rfl
     refine pure_ (i := 4) (N := some 45) (v := ?_) (a' := ?_) #[true, true, false, true, true, false, false] rfl rfl (by kernel_rfl) (fun _ _ _ h => h) (Or.inl ⟨by rfl, ?_⟩) ?_ ?_
     rotate_left
     ·
      intro w'
      go_simp
      with_reducible rfl
     rotate_left
     ·
      simp only [Act.put, List.setIfInBounds_toArray, List.set_cons_zero, List.set_cons_succ, i64_w, i32_w]
      rfl
     refine take_ (i := 2) (N := some 43) (v := ?_) (a' := ?_) #[true, true, true, true, true, false, false] rfl rfl (by kernel_rfl) (fun _ _ _ h => h) (Or.inl ⟨by rfl, ?_⟩) hHeld ?_ ?_
     rotate_left
     ·
      intro w' _
      go_simp
      with_reducible rfl
     rotate_left
     ·
      simp only [Act.put, List.setIfInBounds_toArray, List.set_cons_zero, List.set_cons_succ, i64_w, i32_w]
      rfl
     refine take_ (i := 5) (N := some 46) (v := ?_) (a' := ?_) #[true, true, true, true, true, true, false] rfl rfl (by kernel_rfl) (fun _ _ _ h => h) (Or.inl ⟨by rfl, ?_⟩) hHeld ?_ ?_
     rotate_left
     ·
      intro w' _
      go_simp
      with_reducible rfl
     rotate_left
     ·
      simp only [Act.put, List.setIfInBounds_toArray, List.set_cons_zero, List.set_cons_succ, i64_w, i32_w]
      rfl
     refine pure_ (i := 6) (N := some 47) (v := ?_) (a' := ?_) #[true, true, true, true, true, true, true] rfl rfl (by kernel_rfl) (fun _ _ _ h => h) (Or.inl ⟨by rfl, ?_⟩) ?_ ?_
     rotate_left
     ·
      intro w'
      go_simp
      with_reducible rfl
     rotate_left
     ·
      simp only [Act.put, List.setIfInBounds_toArray, List.set_cons_zero, List.set_cons_succ, i64_w, i32_w]
      rfl
     refine done_ (by kernel_rfl) ?_
     try go_wp2
     replace HO_5 := Aside0.mk (Kd.S_drew HO_5.out)
     replace HL208_0 := Aside0.mk (Kd.R_drew HL208_0.out)
     replace HR208_0 := Aside0.mk (Kd.C_drew HR208_0.out)
     replace HB := Aside0.mk (below_drew1 HB.out)
     have p218 : 0 ≤ (x6_1 : Int) := of_decide_eq_true (by (with_reducible assumption))
     have q218 : x6_1 < (x5_2.length : Int) := of_decide_eq_true (by (with_reducible assumption))
     obtain ⟨ad218, A218_0, c218_0, e218, hx218_0, hl218_0, hi218_0⟩ := at_L4 (Kd.S_reads' HO_5.out).2.2 x6_1 p218 q218
     obtain rfl : (⟨go14, 0, none⟩ : Addr) = ad218 := (by injection e218)
     obtain ⟨ce218, hce218, hMe218, hcc218⟩ := Kd.S_get HO_5.out [] x6_1 p218 (by exact q218)
     obtain ⟨ve218_0, rfl, ge218_0⟩ := hMe218
     have hv218_0 := hcc218 0 _ rfl
     rw [Nat.add_zero, show ((Kd.slice 3 (Kd.int .i64))).sz = 1 from rfl, Nat.mul_one] at hv218_0
     replace hv218_0 := Option.some.inj (hv218_0.symm.trans hx218_0)
     rw [hv218_0] at ge218_0
     have HL218_0 := Aside0.mk (show Kd.R (Kd.int .i64) 3 _ _ _ _ (rd_L4 x5_2 x6_1) from ge218_0)
     clear hv218_0 ge218_0
     have HX218_0 := Aside0.mk hx218_0
     clear hcc218 hce218
     (simp only [add_plain] at hx218_0)
     have HR218_0 := Aside0.mk hi218_0
     have HC218_0 := Aside0.mk hl218_0
     clear hi218_0 hl218_0
     replace p218 := eq_true p218
     replace q218 := eq_true q218
     have p219 : 0 ≤ ((ji36) : Int) := of_decide_eq_true (by (with_reducible assumption))
     have q219 : (ji36) < (x5_2.length : Int) := of_decide_eq_true (by (with_reducible assumption))
     obtain ⟨ad219, A219_0, c219_0, e219, hx219_0, hl219_0, hi219_0⟩ := at_L4 (Kd.S_reads' HO_5.out).2.2 (ji36) p219 q219
     obtain rfl : (⟨go14, 0, none⟩ : Addr) = ad219 := (by injection e219)
     obtain ⟨ce219, hce219, hMe219, hcc219⟩ := Kd.S_get HO_5.out [] (ji36) p219 (by exact q219)
     obtain ⟨ve219_0, rfl, ge219_0⟩ := hMe219
     have hv219_0 := hcc219 0 _ rfl
     rw [Nat.add_zero, show ((Kd.slice 3 (Kd.int .i64))).sz = 1 from rfl, Nat.mul_one] at hv219_0
     replace hv219_0 := Option.some.inj (hv219_0.symm.trans hx219_0)
     rw [hv219_0] at ge219_0
     have HL219_0 := Aside0.mk (show Kd.R (Kd.int .i64) 3 _ _ _ _ (rd_L4 x5_2 (ji36)) from ge219_0)
     clear hv219_0 ge219_0
     have HX219_0 := Aside0.mk hx219_0
     clear hcc219 hce219
     (simp only [add_plain] at hx219_0)
     have HR219_0 := Aside0.mk hi219_0
     have HC219_0 := Aside0.mk hl219_0
     clear hi219_0 hl219_0
     replace p219 := eq_true p219
     replace q219 := eq_true q219
     have p220 : 0 ≤ (x7_2 : Int) := of_decide_eq_true (by (with_reducible assumption))
     have q220 : x7_2 < ((rd_L4 x5_2 (ji36)).length : Int) := of_decide_eq_true (by (with_reducible assumption))
     obtain ⟨ad220, e220, hx220_0⟩ := Kd.at_int (by repeat ((with_reducible exact HR219_0.out))) x7_2 p220 q220
     cases e220
     replace p220 := eq_true p220
     replace q220 := eq_true q220
     have p221 : 0 ≤ (x6_1 : Int) := of_decide_eq_true (by (with_reducible assumption))
     have q221 : x6_1 < (x5_2.length : Int) := of_decide_eq_true (by (with_reducible assumption))
     obtain ⟨ad221, A221_0, c221_0, e221, hx221_0, hl221_0, hi221_0⟩ := at_L4 (Kd.S_reads' HO_5.out).2.2 x6_1 p221 q221
     obtain rfl : (⟨go14, 0, none⟩ : Addr) = ad221 := (by injection e221)
     obtain ⟨ce221, hce221, hMe221, hcc221⟩ := Kd.S_get HO_5.out [] x6_1 p221 (by exact q221)
     obtain ⟨ve221_0, rfl, ge221_0⟩ := hMe221
     have hv221_0 := hcc221 0 _ rfl
     rw [Nat.add_zero, show ((Kd.slice 3 (Kd.int .i64))).sz = 1 from rfl, Nat.mul_one] at hv221_0
     replace hv221_0 := Option.some.inj (hv221_0.symm.trans hx221_0)
     rw [hv221_0] at ge221_0
     have HL221_0 := Aside0.mk (show Kd.R (Kd.int .i64) 3 _ _ _ _ (rd_L4 x5_2 x6_1) from ge221_0)
     clear hv221_0 ge221_0
     have HX221_0 := Aside0.mk hx221_0
     clear hcc221 hce221
     (simp only [add_plain] at hx221_0)
     have HR221_0 := Aside0.mk hi221_0
     have HC221_0 := Aside0.mk hl221_0
     clear hi221_0 hl221_0
     replace p221 := eq_true p221
     replace q221 := eq_true q221
     have ea_ := Option.some.inj (hx218_0.symm.trans hx221_0)
     injection ea_ with ea_ en_ ec_
     subst ea_
     subst ec_
     clear en_
     have p222 : 0 ≤ ((ji39) : Int) := of_decide_eq_true (by (with_reducible assumption))
     have q222 : (ji39) < ((rd_L4 x5_2 x6_1).length : Int) := of_decide_eq_true (by (with_reducible assumption))
     obtain ⟨ad222, e222, hx222_0⟩ := Kd.at_int (by repeat ((with_reducible exact HR221_0.out))) (ji39) p222 q222
     cases e222
     replace p222 := eq_true p222
     replace q222 := eq_true q222
     have p66 : 0 ≤ (x7_2 : Int) := of_decide_eq_true (by (with_reducible assumption))
     have q66 : (x7_2 : Int) < (((rd_L4 x5_2 x6_1).length : Int) : Int) := of_decide_eq_true (by (with_reducible assumption))
     obtain ⟨go66, co66, eo66, gb66, gl66, cl66, HG66⟩ := Kd.R_form HL218_0.out (by omega)
     (cases eo66)
     have GB66 := Aside0.mk gb66
     have GG66 := Aside0.mk HG66
     clear gb66 gl66 HG66
     (simp only [add_plain] at hx222_0)
     obtain ⟨hx66_0, hf66_0⟩ := Kd.R_celln 0 HL218_0.out (x7_2 : Int) p66 q66
     replace p66 := eq_true p66
     replace q66 := eq_true q66
     have hq69 : (x6_1 : Int) < (x5_2.length : Int) := (by have h_ : (x6_1 : Int) < ((x5_2.length : Int) : Int) := of_decide_eq_true (by (with_reducible assumption)); exact h_)
     obtain ⟨oki69, ce69, hcl69, hM69, hcc69, hok69, hbk69⟩ := Kd.S_borrow HO_5.out [] (x6_1 : Int) (of_decide_eq_true (by (with_reducible assumption))) hq69
     obtain ⟨ve69_0, rfl, ge69_0⟩ := hM69
     have hv69 := hcc69 0 _ rfl
     rw [Nat.add_zero, show ((Kd.slice 3 (Kd.int .i64))).sz = 1 from rfl, Nat.mul_one] at hv69
     replace hv69 := Option.some.inj (hv69.symm.trans HX218_0.out)
     subst hv69
     clear hcc69 hcl69
     replace ge69_0 := (show Kd.R (Kd.int .i64) 3 _ _ _ _ (rd_L4 x5_2 x6_1) from ge69_0)
     have HP69 := Kd.R_putg ge69_0 (x7_2 : Int) ji64
     rw [← Ny223.out] at HP69
     have HS69 := hbk69 HP69.2 (fun k_ e_ => by injection e_ with e_; subst e_; exact ge69_0.1 _ rfl) (x' := y223) (Kd.M_row HP69.1)
     rw [← Ny225.out] at HS69
     have HQ69 := Aside0.mk HS69
     clear HP69 HS69 hbk69 hok69
     refine start_ (n := 27) (S := fun w' => w'.cell? ⟨go14, (x6_1).toNat, none⟩ = some (.slice (some ⟨go66, 0, none⟩) (rd_L4 x5_2 x6_1).length c218_0) ∧ w'.cell? ⟨go14, ((ji36)).toNat, none⟩ = some (.slice (some ad220) (rd_L4 x5_2 (ji36)).length c219_0) ∧ w'.cell? (ad220.add (x7_2).toNat) = some (.int .i64 (rd (rd_L4 x5_2 (ji36)) x7_2)) ∧ w'.cell? ⟨go14, (x6_1).toNat, none⟩ = some (.slice (some ⟨go66, 0, none⟩) (rd_L4 x5_2 x6_1).length c218_0) ∧ w'.cell? ⟨go66, ((ji39)).toNat, none⟩ = some (.int .i64 (rd (rd_L4 x5_2 x6_1) (ji39)))) (ds := [26]) #[false, false, false, false, false, false, false, false, false, false, false, false, false, false, false, false, false, false, false, false, false, false, false, false, false, false, false] (by kernel_rfl) rfl rfl ⟨hx218_0, hx219_0, hx220_0, hx221_0, hx222_0⟩ (fun hHeld => ?_); refine with_tabW impl_costs.tab12 impl_costs.bits12 (fun HT_ HW_ => ?_)
     generalize w67.drew = w68 at HO_5 HL208_0 HR208_0 HB GG66 HL218_0 HL219_0 HL221_0 HQ69 HR218_0 HR219_0 HR221_0 HX218_0 HX219_0 HX221_0 hf66_0 hx218_0 hx219_0 hx220_0 hx221_0 hx222_0 hx66_0 hHeld ⊢
     refine pure_ (i := 0) (N := some 50) (v := ?_) (a' := ?_) #[true, false, false, false, false, false, false, false, false, false, false, false, false, false, false, false, false, false, false, false, false, false, false, false, false, false, false] rfl rfl (any_of HT_.out (by kernel_rfl)) (fun _ _ _ h => h) (Or.inl ⟨by rfl, ?_⟩) ?_ ?_
     rotate_left
     ·
      intro w'
      go_simp
      with_reducible rfl
     rotate_left
     ·
      simp only [Act.put, List.setIfInBounds_toArray, List.set_cons_zero, List.set_cons_succ, i64_w, i32_w]
      rfl
     refine pure_ (i := 1) (N := some 51) (v := ?_) (a' := ?_) #[true, true, false, false, false, false, false, false, false, false, false, false, false, false, false, false, false, false, false, false, false, false, false, false, false, false, false] rfl rfl (any_of HT_.out (by kernel_rfl)) (fun _ _ _ h => h) (Or.inl ⟨by rfl, ?_⟩) ?_ ?_
     rotate_left
     ·
      intro w'
      go_simp
      with_reducible rfl
     rotate_left
     ·
      simp only [Act.put, List.setIfInBounds_toArray, List.set_cons_zero, List.set_cons_succ, i64_w, i32_w]
      rfl
     refine pure_ (i := 2) (N := some 52) (v := ?_) (a' := ?_) #[true, true, true, false, false, false, false, false, false, false, false, false, false, false, false, false, false, false, false, false, false, false, false, false, false, false, false] rfl rfl (any_of HT_.out (by kernel_rfl)) (fun _ _ _ h => h) (Or.inl ⟨by rfl, ?_⟩) ?_ ?_
     rotate_left
     ·
      intro w'
      go_simp
      with_reducible rfl
     rotate_left
     ·
      simp only [Act.put, List.setIfInBounds_toArray, List.set_cons_zero, List.set_cons_succ, i64_w, i32_w]
      rfl
     refine pure_ (i := 4) (N := some 54) (v := ?_) (a' := ?_) #[true, true, true, false, true, false, false, false, false, false, false, false, false, false, false, false, false, false, false, false, false, false, false, false, false, false, false] rfl rfl (any_of HT_.out (by kernel_rfl)) (fun _ _ _ h => h) (Or.inl ⟨by rfl, ?_⟩) ?_ ?_
     rotate_left
     ·
      intro w'
      go_simp
      with_reducible rfl
     rotate_left
     ·
      simp only [Act.put, List.setIfInBounds_toArray, List.set_cons_zero, List.set_cons_succ, i64_w, i32_w]
      rfl
     refine pure_ (i := 5) (N := some 55) (v := ?_) (a' := ?_) #[true, true, true, false, true, true, false, false, false, false, false, false, false, false, false, false, false, false, false, false, false, false, false, false, false, false, false] rfl rfl (any_of HT_.out (by kernel_rfl)) (fun _ _ _ h => h) (Or.inl ⟨by rfl, ?_⟩) ?_ ?_
     rotate_left
     ·
      intro w'
      go_simp
      with_reducible rfl
     rotate_left
     ·
      simp only [Act.put, List.setIfInBounds_toArray, List.set_cons_zero, List.set_cons_succ, i64_w, i32_w]
      rfl
     refine pure_ (i := 6) (N := some 56) (v := ?_) (a' := ?_) #[true, true, true, false, true, true, true, false, false, false, false, false, false, false, false, false, false, false, false, false, false, false, false, false, false, false, false] rfl rfl (any_of HT_.out (by kernel_rfl)) (fun _ _ _ h => h) (Or.inl ⟨by rfl, ?_⟩) ?_ ?_
     rotate_left
     ·
      intro w'
      go_simp
      with_reducible rfl
     rotate_left
     ·
      simp only [Act.put, List.setIfInBounds_toArray, List.set_cons_zero, List.set_cons_succ, i64_w, i32_w]
      rfl
     refine pure_ (i := 7) (N := some 57) (v := ?_) (a' := ?_) #[true, true, true, false, true, true, true, true, false, false, false, false, false, false, false, false, false, false, false, false, false, false, false, false, false, false, false] rfl rfl (any_of HT_.out (by kernel_rfl)) (fun _ _ _ h => h) (Or.inl ⟨by rfl, ?_⟩) ?_ ?_
     rotate_left
     ·
      intro w'
      go_simp
      with_reducible rfl
     rotate_left
     ·
      simp only [Act.put, List.setIfInBounds_toArray, List.set_cons_zero, List.set_cons_succ, i64_w, i32_w]
      rfl
     refine pure_ (i := 8) (N := some 58) (v := ?_) (a' := ?_) #[true, true, true, false, true, true, true, true, true, false, false, false, false, false, false, false, false, false, false, false, false, false, false, false, false, false, false] rfl rfl (any_of HT_.out (by kernel_rfl)) (fun _ _ _ h => h) (Or.inl ⟨by rfl, ?_⟩) ?_ ?_
     rotate_left
     ·
      intro w'
      go_simp
      with_reducible rfl
     rotate_left
     ·
      simp only [Act.put, List.setIfInBounds_toArray, List.set_cons_zero, List.set_cons_succ, i64_w, i32_w]
      rfl
     refine pure_ (i := 9) (N := some 59) (v := ?_) (a' := ?_) #[true, true, true, false, true, true, true, true, true, true, false, false, false, false, false, false, false, false, false, false, false, false, false, false, false, false, false] rfl rfl (any_of HT_.out (by kernel_rfl)) (fun _ _ _ h => h) (Or.inl ⟨by rfl, ?_⟩) ?_ ?_
     rotate_left
     ·
      intro w'
      go_simp
      with_reducible rfl
     rotate_left
     ·
      simp only [Act.put, List.setIfInBounds_toArray, List.set_cons_zero, List.set_cons_succ, i64_w, i32_w]
      rfl
     refine pure_ (i := 11) (N := some 61) (v := ?_) (a' := ?_) #[true, true, true, false, true, true, true, true, true, true, false, true, false, false, false, false, false, false, false, false, false, false, false, false, false, false, false] rfl rfl (any_of HT_.out (by kernel_rfl)) (fun _ _ _ h => h) (Or.inl ⟨by rfl, ?_⟩) ?_ ?_
     rotate_left
     ·
      intro w'
      go_simp
      with_reducible rfl
     rotate_left
     ·
      simp only [Act.put, List.setIfInBounds_toArray, List.set_cons_zero, List.set_cons_succ, i64_w, i32_w]
      rfl
     refine pure_ (i := 15) (N := some 65) (v := ?_) (a' := ?_) #[true, true, true, false, true, true, true, true, true, true, false, true, false, false, false, true, false, false, false, false, false, false, false, false, false, false, false] rfl rfl (any_of HT_.out (by kernel_rfl)) (fun _ _ _ h => h) (Or.inl ⟨by rfl, ?_⟩) ?_ ?_
     rotate_left
     ·
      intro w'
      go_simp
      with_reducible rfl
     rotate_left
     ·
      simp only [Act.put, List.setIfInBounds_toArray, List.set_cons_zero, List.set_cons_succ, i64_w, i32_w]
      rfl
     refine pure_ (i := 16) (N := some 66) (v := ?_) (a' := ?_) #[true, true, true, false, true, true, true, true, true, true, false, true, false, false, false, true, true, false, false, false, false, false, false, false, false, false, false] rfl rfl (any_of HT_.out (by kernel_rfl)) (fun _ _ _ h => h) (Or.inl ⟨by rfl, ?_⟩) ?_ ?_
     rotate_left
     ·
      intro w'
      go_simp
      with_reducible rfl
     rotate_left
     ·
      simp only [Act.put, List.setIfInBounds_toArray, List.set_cons_zero, List.set_cons_succ, i64_w, i32_w]
      rfl
     refine pure_ (i := 17) (N := some 67) (v := ?_) (a' := ?_) #[true, true, true, false, true, true, true, true, true, true, false, true, false, false, false, true, true, true, false, false, false, false, false, false, false, false, false] rfl rfl (any_of HT_.out (by kernel_rfl)) (fun _ _ _ h => h) (Or.inl ⟨by rfl, ?_⟩) ?_ ?_
     rotate_left
     ·
      intro w'
      go_simp
      with_reducible rfl
     rotate_left
     ·
      simp only [Act.put, List.setIfInBounds_toArray, List.set_cons_zero, List.set_cons_succ, i64_w, i32_w]
      rfl
     refine pure_ (i := 19) (N := some 69) (v := ?_) (a' := ?_) #[true, true, true, false, true, true, true, true, true, true, false, true, false, false, false, true, true, true, false, true, false, false, false, false, false, false, false] rfl rfl (any_of HT_.out (by kernel_rfl)) (fun _ _ _ h => h) (Or.inl ⟨by rfl, ?_⟩) ?_ ?_
     rotate_left
     ·
      intro w'
      go_simp
      with_reducible rfl
     rotate_left
     ·
      simp only [Act.put, List.setIfInBounds_toArray, List.set_cons_zero, List.set_cons_succ, i64_w, i32_w]
      rfl
     refine pure_ (i := 20) (N := some 70) (v := ?_) (a' := ?_) #[true, true, true, false, true, true, true, true, true, true, false, true, false, false, false, true, true, true, false, true, true, false, false, false, false, false, false] rfl rfl (any_of HT_.out (by kernel_rfl)) (fun _ _ _ h => h) (Or.inl ⟨by rfl, ?_⟩) ?_ ?_
     rotate_left
     ·
      intro w'
      go_simp
      with_reducible rfl
     rotate_left
     ·
      simp only [Act.put, List.setIfInBounds_toArray, List.set_cons_zero, List.set_cons_succ, i64_w, i32_w]
      rfl
     refine take_ (i := 3) (N := some 53) (v := ?_) (a' := ?_) #[true, true, true, true, true, true, true, true, true, true, false, true, false, false, false, true, true, true, false, true, true, false, false, false, false, false, false] rfl rfl (take_ofW HT_.out HW_.out (by kernel_rfl)) (fun _ _ _ h => h) (Or.inl ⟨by rfl, ?_⟩) hHeld ?_ ?_
     rotate_left
     ·
      rintro w' ⟨s0, s1, s2, s3, s4⟩
      go_simp
      with_reducible rfl
     rotate_left
     ·
      simp only [Act.put, List.setIfInBounds_toArray, List.set_cons_zero, List.set_cons_succ, i64_w, i32_w]
      rfl
     refine take_ (i := 10) (N := some 60) (v := ?_) (a' := ?_) #[true, true, true, true, true, true, true, true, true, true, true, true, false, false, false, true, true, true, false, true, true, false, false, false, false, false, false] rfl rfl (take_ofW HT_.out HW_.out (by kernel_rfl)) (fun _ _ _ h => h) (Or.inl ⟨by rfl, ?_⟩) hHeld ?_ ?_
     rotate_left
     ·
      rintro w' ⟨s0, s1, s2, s3, s4⟩
      go_simp
      with_reducible rfl
     rotate_left
     ·
      simp only [Act.put, List.setIfInBounds_toArray, List.set_cons_zero, List.set_cons_succ, i64_w, i32_w]
      rfl
     refine pure_ (i := 12) (N := some 62) (v := ?_) (a' := ?_) #[true, true, true, true, true, true, true, true, true, true, true, true, true, false, false, true, true, true, false, true, true, false, false, false, false, false, false] rfl rfl (any_of HT_.out (by kernel_rfl)) (fun _ _ _ h => h) (Or.inl ⟨by rfl, ?_⟩) ?_ ?_
     rotate_left
     ·
      intro w'
      go_simp
      with_reducible rfl
     rotate_left
     ·
      simp only [Act.put, List.setIfInBounds_toArray, List.set_cons_zero, List.set_cons_succ, i64_w, i32_w]
      rfl
     refine take_ (i := 13) (N := some 63) (v := ?_) (a' := ?_) #[true, true, true, true, true, true, true, true, true, true, true, true, true, true, false, true, true, true, false, true, true, false, false, false, false, false, false] rfl rfl (take_ofW HT_.out HW_.out (by kernel_rfl)) (fun _ _ _ h => h) (Or.inl ⟨by rfl, ?_⟩) hHeld ?_ ?_
     rotate_left
     ·
      rintro w' ⟨s0, s1, s2, s3, s4⟩
      go_simp
      with_reducible rfl
     rotate_left
     ·
      simp only [Act.put, List.setIfInBounds_toArray, List.set_cons_zero, List.set_cons_succ, i64_w, i32_w]
      rfl
     refine pure_ (i := 14) (N := some 64) (v := ?_) (a' := ?_) #[true, true, true, true, true, true, true, true, true, true, true, true, true, true, true, true, true, true, false, true, true, false, false, false, false, false, false] rfl rfl (any_of HT_.out (by kernel_rfl)) (fun _ _ _ h => h) (Or.inl ⟨by rfl, ?_⟩) ?_ ?_
     rotate_left
     ·
      intro w'
      go_simp
      with_reducible rfl
     rotate_left
     ·
      simp only [Act.put, List.setIfInBounds_toArray, List.set_cons_zero, List.set_cons_succ, i64_w, i32_w]
      rfl
     refine take_ (i := 18) (N := some 68) (v := ?_) (a' := ?_) #[true, true, true, true, true, true, true, true, true, true, true, true, true, true, true, true, true, true, true, true, true, false, false, false, false, false, false] rfl rfl (take_ofW HT_.out HW_.out (by kernel_rfl)) (fun _ _ _ h => h) (Or.inl ⟨by rfl, ?_⟩) hHeld ?_ ?_
     rotate_left
     ·
      rintro w' ⟨s0, s1, s2, s3, s4⟩
      go_simp
      with_reducible rfl
     rotate_left
     ·
      simp only [Act.put, List.setIfInBounds_toArray, List.set_cons_zero, List.set_cons_succ, i64_w, i32_w]
      rfl
     refine pure_ (i := 21) (N := some 71) (v := ?_) (a' := ?_) #[true, true, true, true, true, true, true, true, true, true, true, true, true, true, true, true, true, true, true, true, true, true, false, false, false, false, false] rfl rfl (any_of HT_.out (by kernel_rfl)) (fun _ _ _ h => h) (Or.inl ⟨by rfl, ?_⟩) ?_ ?_
     rotate_left
     ·
      intro w'
      go_simp
      with_reducible rfl
     rotate_left
     ·
      simp only [Act.put, List.setIfInBounds_toArray, List.set_cons_zero, List.set_cons_succ, i64_w, i32_w]
      rfl
     refine take_ (i := 22) (N := some 72) (v := ?_) (a' := ?_) #[true, true, true, true, true, true, true, true, true, true, true, true, true, true, true, true, true, true, true, true, true, true, true, false, false, false, false] rfl rfl (take_ofW HT_.out HW_.out (by kernel_rfl)) (fun _ _ _ h => h) (Or.inl ⟨by rfl, ?_⟩) hHeld ?_ ?_
     rotate_left
     ·
      rintro w' ⟨s0, s1, s2, s3, s4⟩
      go_simp
      with_reducible rfl
     rotate_left
     ·
      simp only [Act.put, List.setIfInBounds_toArray, List.set_cons_zero, List.set_cons_succ, i64_w, i32_w]
      rfl
     refine pure_ (i := 23) (N := some 73) (v := ?_) (a' := ?_) #[true, true, true, true, true, true, true, true, true, true, true, true, true, true, true, true, true, true, true, true, true, true, true, true, false, false, false] rfl rfl (any_of HT_.out (by kernel_rfl)) (fun _ _ _ h => h) (Or.inl ⟨by rfl, ?_⟩) ?_ ?_
     rotate_left
     ·
      intro w'
      go_simp
      with_reducible rfl
     rotate_left
     ·
      simp only [Act.put, List.setIfInBounds_toArray, List.set_cons_zero, List.set_cons_succ, i64_w, i32_w]
      rfl
     refine pure_ (i := 24) (N := some 74) (v := ?_) (a' := ?_) #[true, true, true, true, true, true, true, true, true, true, true, true, true, true, true, true, true, true, true, true, true, true, true, true, true, false, false] rfl rfl (any_of HT_.out (by kernel_rfl)) (fun _ _ _ h => h) (Or.inl ⟨by rfl, ?_⟩) ?_ ?_
     rotate_left
     ·
      intro w'
      go_simp
      with_reducible rfl
     rotate_left
     ·
      simp only [Act.put, List.setIfInBounds_toArray, List.set_cons_zero, List.set_cons_succ, i64_w, i32_w]
      rfl
     refine pure_ (i := 25) (N := some 75) (v := ?_) (a' := ?_) #[true, true, true, true, true, true, true, true, true, true, true, true, true, true, true, true, true, true, true, true, true, true, true, true, true, true, false] rfl rfl (any_of HT_.out (by kernel_rfl)) (fun _ _ _ h => h) (Or.inl ⟨by rfl, ?_⟩) ?_ ?_
     rotate_left
     ·
      intro w'
      go_simp
      with_reducible rfl
     rotate_left
     ·
      simp only [Act.put, List.setIfInBounds_toArray, List.set_cons_zero, List.set_cons_succ, i64_w, i32_w]
      rfl
     refine last_ (i := 26) (N := none) #[true, true, true, true, true, true, true, true, true, true, true, true, true, true, true, true, true, true, true, true, true, true, true, true, true, true, true] rfl rfl (one_of HT_.out (by kernel_rfl)) (by decide) (fun K hK => ?_)
     refine skip_ (w1 := ?_) (by rfl) rfl ?_ ?_
     rotate_left
     ·
      go_simp
      rfl
     refine hK.out _ _ ?_
     clear hK K
     refine done_ (done_of HT_.out (by kernel_rfl)) ?_
     try go_wp2
     (try simp only [← hl5_2])
     go_roundg k2
     case measure => have := HK1.out; have := HK2.out; omega
     case rel => exact ⟨(y225), (wrap64 (x7_2 - 1)), (by rfl), H', ⟨by have := HK1.out; have := HK2.out; omega⟩, ⟨by (try simp only [hl5_2]); (with_reducible repeat (first | apply Kd.S_alloc | apply Kd.S_drewN | apply Kd.S_drew)); exact HQ69.out⟩, ⟨by repeat ((with_reducible first | exact HB.out | refine below_set ?_ GB66.out))⟩⟩

end Go.Proofs.Ytljmhhadclgegaa.PFnBatch

-- Laid by a program of this session: what the print of the kit writes, and contracts of the session where the print takes no function. Lean checks it.
import Derived.Test.YtljmhhadclgegaaPFnBatchx0
namespace Go.Proofs.Ytljmhhadclgegaa.PFnBatch
open Go.RowKit Go.Proofs.YtljmhhadclgegaaW.PrintWords Go.Proofs.YtljmhhadclgegaaW.PrintLast Go.Proofs.YtljmhhadclgegaaW.PrintMore
attribute [local go_sem] max2_int min2_int max_two min_two max_three min_three max_four min_four   -- for this text's walks alone
set_option linter.unusedVariables false
set_option linter.unusedSimpArgs false

/-! ### spec_l05Table: function 80 -/
mutual
def spec_l05Table.l0 : Nat → ByteArray → ByteArray → List (List Int) → Int → Option ((List (List Int)))
  | 0, _, _, _, _ => none
  | k + 1, x0, x1, x5, x6 => if x6 ≥ 0 then (if 0 ≤ (wrap64 ((x1.size : Int) + 1)) then (if (wrap64 ((x1.size : Int) + 1) : Int).toNat ≤ 35184372088832 then (if 0 ≤ x6 then (if x6 < (x5.length : Int) then (spec_l05Table.l1 k x0 x1 (x5.set (x6 : Int).toNat (List.replicate (wrap64 ((x1.size : Int) + 1) : Int).toNat 0)) x6 (x1.size : Int)) else (none)) else (none)) else (none)) else (none)) else (some x5)
def spec_l05Table.l1 : Nat → ByteArray → ByteArray → List (List Int) → Int → Int → Option ((List (List Int)))
  | 0, _, _, _, _, _ => none
  | k + 1, x0, x1, x5, x6, x7 => if x7 ≥ 0 then (if x6 = (x0.size : Int) then (if 0 ≤ x6 then (if x6 < (x5.length : Int) then (if 0 ≤ x7 then (if x7 < ((rd_L4 x5 x6).length : Int) then (spec_l05Table.l1 k x0 x1 (x5.set (x6 : Int).toNat ((rd_L4 x5 x6).set (x7 : Int).toNat (wrap64 ((x1.size : Int) - x7)))) x6 (wrap64 (x7 - 1))) else (none)) else (none)) else (none)) else (none)) else (if x7 = (x1.size : Int) then (if 0 ≤ x6 then (if x6 < (x5.length : Int) then (if 0 ≤ x7 then (if x7 < ((rd_L4 x5 x6).length : Int) then (spec_l05Table.l1 k x0 x1 (x5.set (x6 : Int).toNat ((rd_L4 x5 x6).set (x7 : Int).toNat (wrap64 ((x0.size : Int) - x6)))) x6 (wrap64 (x7 - 1))) else (none)) else (none)) else (none)) else (none)) else (if 0 ≤ (wrap64 (x6 + 1)) then (if (wrap64 (x6 + 1)) < (x5.length : Int) then (if 0 ≤ x7 then (if x7 < ((rd_L4 x5 (wrap64 (x6 + 1))).length : Int) then (if 0 ≤ x6 then (if x6 < (x5.length : Int) then (if 0 ≤ (wrap64 (x7 + 1)) then (if (wrap64 (x7 + 1)) < ((rd_L4 x5 x6).length : Int) then (if (wrap64 (x7 + 1)) < ((rd_L4 x5 (wrap64 (x6 + 1))).length : Int) then (if x6 < (x0.size : Int) then (if x7 < (x1.size : Int) then (if (bt x0 x6) = (bt x1 x7) then (if x7 < ((rd_L4 x5 x6).length : Int) then (spec_l05Table.l1 k x0 x1 (x5.set (x6 : Int).toNat ((rd_L4 x5 x6).set (x7 : Int).toNat (mn (wrap64 (1 + (mn (mn (rd (rd_L4 x5 (wrap64 (x6 + 1))) x7) (rd (rd_L4 x5 x6) (wrap64 (x7 + 1)))) (rd (rd_L4 x5 (wrap64 (x6 + 1))) (wrap64 (x7 + 1)))))) (rd (rd_L4 x5 (wrap64 (x6 + 1))) (wrap64 (x7 + 1)))))) x6 (wrap64 (x7 - 1))) else (none)) else (if x7 < ((rd_L4 x5 x6).length : Int) then (spec_l05Table.l1 k x0 x1 (x5.set (x6 : Int).toNat ((rd_L4 x5 x6).set (x7 : Int).toNat (wrap64 (1 + (mn (mn (rd (rd_L4 x5 (wrap64 (x6 + 1))) x7) (rd (rd_L4 x5 x6) (wrap64 (x7 + 1)))) (rd (rd_L4 x5 (wrap64 (x6 + 1))) (wrap64 (x7 + 1)))))))) x6 (wrap64 (x7 - 1))) else (none))) else (none)) else (none)) else (none)) else (none)) else (none)) else (none)) else (none)) else (none)) else (none)) else (none)) else (none)))) else (spec_l05Table.l0 k x0 x1 x5 (wrap64 (x6 - 1)))
end
def spec_l05Table.f (k : Nat) (a0 : ByteArray) (a1 : ByteArray) : Option ((List (List Int))) := if 0 ≤ (wrap64 ((a0.size : Int) + 1)) then (if (wrap64 ((a0.size : Int) + 1) : Int).toNat ≤ 11728124029610 then (spec_l05Table.l0 k a0 a1 (List.replicate (wrap64 ((a0.size : Int) + 1) : Int).toNat []) (a0.size : Int)) else (none)) else (none)
theorem spec_l05Table.mono_l : ∀ k, (∀ y0 y1 y2 y3, LeO (spec_l05Table.l0 k y0 y1 y2 y3) (spec_l05Table.l0 (k + 1) y0 y1 y2 y3)) ∧ (∀ y0 y1 y2 y3 y4, LeO (spec_l05Table.l1 k y0 y1 y2 y3 y4) (spec_l05Table.l1 (k + 1) y0 y1 y2 y3 y4))
  | 0 => ⟨fun _ _ _ _ r h => by simp [spec_l05Table.l0] at h, fun _ _ _ _ _ r h => by simp [spec_l05Table.l1] at h⟩
  | k + 1 => by
    obtain ⟨ih0, ih1⟩ := spec_l05Table.mono_l k
    refine ⟨?_, ?_⟩
    · intro y0 y1 y2 y3
      unfold spec_l05Table.l0
      repeat' first | (with_reducible exact ih1 _ _ _ _ _) | (with_reducible exact LeO.refl _) | (with_reducible refine LeO.ite ?_ ?_)
    · intro y0 y1 y2 y3 y4
      unfold spec_l05Table.l1
      repeat' first | (with_reducible exact ih0 _ _ _ _) | (with_reducible exact ih1 _ _ _ _ _) | (with_reducible exact LeO.refl _) | (with_reducible refine LeO.ite ?_ ?_)
theorem spec_l05Table.mono : ∀ a0 a1 k, LeO (spec_l05Table.f k a0 a1) (spec_l05Table.f (k + 1) a0 a1) := by
  intro a0 a1 k
  obtain ⟨ih0, ih1⟩ := spec_l05Table.mono_l k
  unfold spec_l05Table.f
  repeat' first | (with_reducible exact ih0 _ _ _ _) | (with_reducible exact LeO.refl _) | (with_reducible refine LeO.ite ?_ ?_)
set_option maxHeartbeats 8000000 in
set_option maxRecDepth 100000 in
theorem spec_l05Table.calls (k : Nat) (a0 : ByteArray) (a1 : ByteArray) (r : List (List Int)) (w : World) (h : spec_l05Table.f k a0 a1 = some r) :
    Calls Try.prog 80 #[.string a0, .string a1] w fun e w' => ∃ v0_ : Value, e = .returned (v0_) ∧ Kd.S (Kd.slice 3 (Kd.int .i64)) 24 w' w.heap.size (fun _ => True) v0_ r ∧ Below w.heap.size w w' := by
 have HB := Aside0.mk (Below.refl w.heap.size w)
 have H : (if 0 ≤ (wrap64 ((a0.size : Int) + 1)) then (if (wrap64 ((a0.size : Int) + 1) : Int).toNat ≤ 11728124029610 then (spec_l05Table.l0 k a0 a1 (List.replicate (wrap64 ((a0.size : Int) + 1) : Int).toNat []) (a0.size : Int)) else (none)) else (none)) = some r := h
 clear h
 obtain ⟨ji3, hji3⟩ : ∃ j_ : Int, (wrap64 ((a0.size : Int) + 1)) = j_ := ⟨_, rfl⟩
 replace H : (if 0 ≤ (ji3) then (if (ji3 : Int).toNat ≤ 11728124029610 then (spec_l05Table.l0 k a0 a1 (List.replicate (ji3 : Int).toNat []) (a0.size : Int)) else (none)) else (none)) = some r := by (rw [hji3] at H; exact H)
 have hji3w : (IntKind.i64.wrap ((a0.size : Int) + 1)) = ji3 := (i64_w _).trans hji3
 by_cases c4 : 0 ≤ (ji3)
 rotate_left
 ·
  rw [if_neg c4] at H
  exact absurd H (by simp)
 rw [if_pos c4] at H
 have c4b0 := eq_true c4
 have c4b1 : decide (0 ≤ (ji3)) = true := decide_eq_true c4
 clear c4
 by_cases c5 : (ji3 : Int).toNat ≤ 11728124029610
 rotate_left
 ·
  rw [if_neg c5] at H
  exact absurd H (by simp)
 rw [if_pos c5] at H
 have c5b0 := eq_true c5
 have c5b1 : decide ((ji3 : Int).toNat ≤ 11728124029610) = true := decide_eq_true c5
 clear c5
 obtain ⟨y450, hy450⟩ : ∃ y_ : List (List Int), y_ = (List.replicate (ji3 : Int).toNat []) := ⟨_, rfl⟩
 replace H : (spec_l05Table.l0 k a0 a1 y450 (a0.size : Int)) = some r := by (rw [hy450]; with_reducible exact H)
 have Ny450 := Aside0.mk hy450
 clear hy450
 have H' := Aside0.mk H
 clear H
 go_enter Try.func80, Try.ntmps80
 go_wp2_with (((with_reducible refine gate_dst (N := 12) rfl ?_); refine Kd.S_make (Kd.slice 3 (Kd.int .i64)) _ 24 rfl (N := 12) rfl 76 _ _ rfl ji3 rfl rfl Try.underlying76 (.slice none 0 0) 24 info24 rfl (by decide) (by omega) [] (ok := fun _ => True) (okp := fun _ => True) ⟨_, rfl, Kd.R_nil _ _ _ _ _⟩ (fun _ hk => hk) trivial (of_decide_eq_true (by (with_reducible assumption))) (Nat.le_trans (Nat.mul_le_mul_right _ (of_decide_eq_true (by (with_reducible assumption)) : ji3.toNat ≤ 11728124029610)) (by omega)) (Below.refl _ _) (Nat.le_refl _) ?_; intro v451 w6 ho7 hb hg_ hnew_; clear hg_ hnew_; (rw [← Ny450.out] at ho7); have n0_ := Aside0.mk (Kd.S_lower ho7 (below_size (by repeat ((with_reducible exact HB.out))))); have n1_ := Aside0.mk (below_step (by repeat ((with_reducible exact HB.out))) hb); clear HB; have HO452 := n0_; have HB := n1_; clear n0_ n1_; clear hb ho7))
 repeat (go_quiet (((with_reducible refine gate_dst (N := 12) rfl ?_); refine Kd.S_make (Kd.slice 3 (Kd.int .i64)) _ 24 rfl (N := 12) rfl 76 _ _ rfl ji3 rfl rfl Try.underlying76 (.slice none 0 0) 24 info24 rfl (by decide) (by omega) [] (ok := fun _ => True) (okp := fun _ => True) ⟨_, rfl, Kd.R_nil _ _ _ _ _⟩ (fun _ hk => hk) trivial (of_decide_eq_true (by first | (with_reducible assumption) | assumption)) (Nat.le_trans (Nat.mul_le_mul_right _ (of_decide_eq_true (by first | (with_reducible assumption) | assumption) : ji3.toNat ≤ 11728124029610)) (by omega)) (Below.refl _ _) (Nat.le_refl _) ?_; intro v451 w6 ho7 hb hg_ hnew_; clear hg_ hnew_; (first | rw [← Ny450.out] at ho7 | (simp only [Int.reduceToNat] at ho7; rw [← Ny450.out] at ho7)); have n0_ := Aside0.mk (Kd.S_lower ho7 (below_size HB.out)); have n1_ := Aside0.mk (below_step HB.out hb); clear HB; have HO452 := n0_; have HB := n1_; clear n0_ n1_; clear hb ho7)); try go_wp2_with (((with_reducible refine gate_dst (N := 12) rfl ?_); refine Kd.S_make (Kd.slice 3 (Kd.int .i64)) _ 24 rfl (N := 12) rfl 76 _ _ rfl ji3 rfl rfl Try.underlying76 (.slice none 0 0) 24 info24 rfl (by decide) (by omega) [] (ok := fun _ => True) (okp := fun _ => True) ⟨_, rfl, Kd.R_nil _ _ _ _ _⟩ (fun _ hk => hk) trivial (of_decide_eq_true (by first | (with_reducible assumption) | assumption)) (Nat.le_trans (Nat.mul_le_mul_right _ (of_decide_eq_true (by first | (with_reducible assumption) | assumption) : ji3.toNat ≤ 11728124029610)) (by omega)) (Below.refl _ _) (Nat.le_refl _) ?_; intro v451 w6 ho7 hb hg_ hnew_; clear hg_ hnew_; (first | rw [← Ny450.out] at ho7 | (simp only [Int.reduceToNat] at ho7; rw [← Ny450.out] at ho7)); have n0_ := Aside0.mk (Kd.S_lower ho7 (below_size HB.out)); have n1_ := Aside0.mk (below_step HB.out hb); clear HB; have HO452 := n0_; have HB := n1_; clear n0_ n1_; clear hb ho7)))
 go_loopg [6] k (fun kq v6 w' => ∃ (x5_1 : List (List Int)) (x6_1 : Int), v6 = .int .i64 x6_1 ∧ Aside0 (spec_l05Table.l0 kq a0 a1 x5_1 x6_1 = some r) ∧ Aside0 (kq ≤ k) ∧ Aside0 (Kd.S (Kd.slice 3 (Kd.int .i64)) 24 w' w.heap.size (fun _ => True) v451 x5_1) ∧ Aside0 (Below w.heap.size w w'))
 case atStart => exact ⟨(y450), ((a0.size : Int)), (by rfl), H', ⟨Nat.le_refl _⟩, ⟨by (with_reducible repeat (first | apply Kd.S_alloc | apply Kd.S_drewN | apply Kd.S_drew)); exact HO452.out⟩, ⟨by repeat ((with_reducible exact HB.out))⟩⟩
 case round =>
  clear H'
  try clear p2
  try clear c4
  try clear c4b0
  try clear c4b1
  try clear c5
  try clear c5b0
  try clear c5b1
  try clear p6
  obtain ⟨x5_1, x6_1, rfl, HA, HK1, HO_5, HB⟩ := hrel
  cases gk with
  | zero => exact absurd HA.out (by simp [spec_l05Table.l0])
  | succ k1 =>
   have H := HA.out
   clear HA
   simp only [spec_l05Table.l0] at H
   by_cases c8 : x6_1 ≥ 0
   rotate_left
   ·
    rw [if_neg c8] at H
    have c8b0 : decide (0 ≤ x6_1) = false := decide_eq_false c8
    clear c8
    obtain rfl := Option.some.inj H
    go_wp2
    repeat (go_quiet (fail); try go_wp2)
    go_ret
    exact ⟨_, by rfl, by (with_reducible repeat (first | apply Kd.S_alloc | apply Kd.S_drewN | apply Kd.S_drew)); exact HO_5.out, by repeat ((with_reducible exact HB.out))⟩
   rw [if_pos c8] at H
   have c8b0 : decide (0 ≤ x6_1) = true := decide_eq_true c8
   clear c8
   obtain ⟨ji9, hji9⟩ : ∃ j_ : Int, (wrap64 ((a1.size : Int) + 1)) = j_ := ⟨_, rfl⟩
   replace H : (if 0 ≤ (ji9) then (if (ji9 : Int).toNat ≤ 35184372088832 then (if 0 ≤ x6_1 then (if x6_1 < (x5_1.length : Int) then (spec_l05Table.l1 k1 a0 a1 (x5_1.set (x6_1 : Int).toNat (List.replicate (ji9 : Int).toNat 0)) x6_1 (a1.size : Int)) else (none)) else (none)) else (none)) else (none)) = some r := by (rw [hji9] at H; exact H)
   have hji9w : (IntKind.i64.wrap ((a1.size : Int) + 1)) = ji9 := (i64_w _).trans hji9
   by_cases c10 : 0 ≤ (ji9)
   rotate_left
   ·
    rw [if_neg c10] at H
    exact absurd H (by simp)
   rw [if_pos c10] at H
   have c10b0 := eq_true c10
   have c10b1 : decide (0 ≤ (ji9)) = true := decide_eq_true c10
   clear c10
   by_cases c11 : (ji9 : Int).toNat ≤ 35184372088832
   rotate_left
   ·
    rw [if_neg c11] at H
    exact absurd H (by simp)
   rw [if_pos c11] at H
   have c11b0 := eq_true c11
   have c11b1 : decide ((ji9 : Int).toNat ≤ 35184372088832) = true := decide_eq_true c11
   clear c11
   obtain ⟨y453, hy453⟩ : ∃ y_ : List Int, y_ = (List.replicate (ji9 : Int).toNat 0) := ⟨_, rfl⟩
   replace H : (if 0 ≤ x6_1 then (if x6_1 < (x5_1.length : Int) then (spec_l05Table.l1 k1 a0 a1 (x5_1.set (x6_1 : Int).toNat y453) x6_1 (a1.size : Int)) else (none)) else (none)) = some r := by (rw [hy453]; with_reducible exact H)
   have Ny453 := Aside0.mk hy453
   clear hy453
   by_cases c12 : 0 ≤ x6_1
   rotate_left
   ·
    rw [if_neg c12] at H
    exact absurd H (by simp)
   rw [if_pos c12] at H
   have c12b0 : decide (0 ≤ x6_1) = true := decide_eq_true c12
   clear c12
   by_cases c13 : x6_1 < (x5_1.length : Int)
   rotate_left
   ·
    rw [if_neg c13] at H
    exact absurd H (by simp)
   rw [if_pos c13] at H
   have c13b0 : decide (x6_1 < (x5_1.length : Int)) = true := decide_eq_true c13
   clear c13
   obtain ⟨y456, hy456⟩ : ∃ y_ : List (List Int), y_ = (x5_1.set (x6_1 : Int).toNat y453) := ⟨_, rfl⟩
   replace H : (spec_l05Table.l1 k1 a0 a1 y456 x6_1 (a1.size : Int)) = some r := by (rw [hy456]; with_reducible exact H)
   have Ny456 := Aside0.mk hy456
   clear hy456
   have H' := Aside0.mk H
   clear H
   go_wp2_with (first | ((with_reducible refine gate_dst (N := 24) rfl ?_); refine Kd.R_make (Kd.int .i64) _ 3 rfl (N := 24) rfl 24 _ _ rfl ji9 rfl rfl Try.underlying24 (.int .i64 0) 8 info3 rfl (by decide) (by omega) 0 (ok := fun _ => True) (okp := fun _ => True) rfl (fun _ hk => hk) trivial (of_decide_eq_true (by (with_reducible assumption))) (Nat.le_trans (Nat.mul_le_mul_right _ (of_decide_eq_true (by (with_reducible assumption)) : ji9.toNat ≤ 35184372088832)) (by omega)) (Below.refl _ _) (Nat.le_refl _) ?_; intro v454 w15 ho16 hb hg_ hnew_; clear hg_ hnew_; (rw [← Ny453.out] at ho16); have n0_ := Aside0.mk (Kd.S_elder' (by (with_reducible repeat (first | apply Kd.S_alloc | apply Kd.S_drewN | apply Kd.S_drew)); exact HO_5.out) (Kd.R_base ho16) hb); have n1_ := Aside0.mk (Kd.R_lower ho16 (below_size (by repeat ((with_reducible exact HB.out))))); have n2_ := Aside0.mk (below_step (by repeat ((with_reducible exact HB.out))) hb); clear HO_5; clear HB; have HO_5 := n0_; have HO455 := n1_; have HB := n2_; clear n0_ n1_ n2_; obtain ⟨Aq454, cq454, eq454⟩ := Kd.R_slice HO455.out; subst eq454; clear hb ho16; have p14 : 0 ≤ (x6_1 : Int) := of_decide_eq_true (by (with_reducible assumption)); have q14 : (x6_1 : Int) < ((x5_1.length : Int) : Int) := of_decide_eq_true (by (with_reducible assumption)); obtain ⟨go14, co14, eo14, gb14, gl14, cl14, HG14⟩ := Kd.S_form HO_5.out (by omega); (cases eo14); have GB14 := Aside0.mk gb14; have GG14 := Aside0.mk HG14; clear gb14 gl14 HG14; obtain ⟨_, ce14, hcl14, hM14, hcc14, hfr14, _, _⟩ := Kd.S_elem HO_5.out [] (x6_1 : Int) p14 q14; obtain ⟨ve14_0, rfl, ge14_0⟩ := hM14; have hx14_0 := hcc14 0 _ rfl; have hf14_0 := hfr14 0; (try simp only [show ((Kd.slice 3 (Kd.int .i64))).sz = 1 from rfl, Nat.mul_one, Nat.add_zero] at hx14_0); (try simp only [show ((Kd.slice 3 (Kd.int .i64))).sz = 1 from rfl, Nat.mul_one, Nat.add_zero] at hf14_0); (try clear hM14); clear hcl14 hcc14 hfr14; replace p14 := eq_true p14; replace q14 := eq_true q14; have n_ := Aside0.mk (Kd.S_mono (ok' := (fun k_ => some k_ ≠ ((.slice Aq454 y453.length cq454 : Value) : Value).ownBlock)) HO_5.out (fun k_ hk => hk.2)); clear HO_5; have HO_5 := n_; clear n_; have HX17 := Aside0.mk (show Kd.S (Kd.slice 3 (Kd.int .i64)) 24 w15 w.heap.size (fun k_ => ((fun _ => True)) k_ ∧ ¬ ((fun k_ => some k_ = ((.slice Aq454 y453.length cq454 : Value) : Value).ownBlock)) k_) (.slice (some ⟨go14, 0, none⟩) x5_1.length co14) x5_1 from (by (with_reducible repeat (first | apply Kd.S_alloc | apply Kd.S_drewN | apply Kd.S_drew)); exact Kd.S_mono HO_5.out (fun k_ hk => ⟨trivial, fun e_ => hk e_⟩))); obtain ⟨oki17, ce17, hcl17, hM17, hcc17, hfr17, hoki17, hH17⟩ := Kd.S_elem HX17.out [] (x6_1 : Int) (of_decide_eq_true (by (with_reducible assumption))) (by have h_ : (x6_1 : Int) < ((x5_1.length : Int) : Int) := of_decide_eq_true (by (with_reducible assumption)); exact h_); obtain ⟨ve17_0, rfl, ge17_0⟩ := hM17; have HP17 := Kd.S_seg hH17 (of_decide_eq_true (by (with_reducible assumption))) (by have h_ : (x6_1 : Int) < ((x5_1.length : Int) : Int) := of_decide_eq_true (by (with_reducible assumption)); exact h_) (seg := [(.slice Aq454 y453.length cq454 : Value)]) (j := 0) (show 1 ≤ 1 from by decide) (x' := y453) (Kd.M_row (Kd.R_mono (Kd.R_tight rfl (Kd.R_mono (ok' := fun k_ => ((fun _ => True)) k_ ∧ k_ ≠ go14) (Kd.R_apart' (HO455.out) (Kd.S_typed HO_5.out) (by decide)) (fun k_ hk => ⟨trivial, fun e_ => (hk.2) (by rw [e_]; rfl)⟩))) (fun _ h_ => Or.inr (h_)))) (fun _ hk => hk) (fun k_ hk_ => ((Kd.R_mono (ok' := fun k_ => ((fun _ => True)) k_ ∧ k_ ≠ go14) (Kd.R_apart' (HO455.out) (Kd.S_typed HO_5.out) (by decide)) (fun k_ hk => ⟨trivial, fun e_ => (hk.2) (by rw [e_]; rfl)⟩))).1 k_ hk_.symm); have hx17_0 := hcc17 0 _ rfl; (try simp only [show ((Kd.slice 3 (Kd.int .i64))).sz = 1 from rfl, Nat.mul_one, Nat.add_zero] at hx17_0); have hf17_0 := hfr17 0; (try simp only [show ((Kd.slice 3 (Kd.int .i64))).sz = 1 from rfl, Nat.mul_one, Nat.add_zero] at hf17_0); (try clear hM17); clear hcl17 hcc17 hfr17 hoki17 hH17; (try simp only [show ((Kd.slice 3 (Kd.int .i64))).sz = 1 from rfl, Nat.mul_one, Nat.add_zero] at HP17)) | ((with_reducible refine gate_store (t := 24) (p := 25) rfl ?_); (try (rw [drewN_self w15]; generalize hq_ : World.drewN w15 _ = w15; have n0_ := Aside0.mk (Kd.S_at hq_ HO_5.out); have n1_ := Aside0.mk (below_at hq_ HB.out); clear hq_ HO_5 HB; have HO_5 := n0_; have HB := n1_; clear n0_ n1_; (try (have n_ := Aside0.mk (Kd.S_mono (ok' := (fun k_ => some k_ ≠ ((.slice Aq454 y453.length cq454 : Value) : Value).ownBlock)) HO_5.out (fun k_ hk => hk.2)); clear HO_5; have HO_5 := n_; clear n_)); (try (have HX17 := Aside0.mk (show Kd.S (Kd.slice 3 (Kd.int .i64)) 24 w15 w.heap.size (fun k_ => ((fun _ => True)) k_ ∧ ¬ ((fun k_ => some k_ = ((.slice Aq454 y453.length cq454 : Value) : Value).ownBlock)) k_) (.slice (some ⟨go14, 0, none⟩) x5_1.length co14) x5_1 from (by (with_reducible repeat (first | apply Kd.S_alloc | apply Kd.S_drewN | apply Kd.S_drew)); exact Kd.S_mono HO_5.out (fun k_ hk => ⟨trivial, fun e_ => hk e_⟩))))); (try (obtain ⟨oki17, ce17, hcl17, hM17, hcc17, hfr17, hoki17, hH17⟩ := Kd.S_elem HX17.out [] (x6_1 : Int) (of_decide_eq_true (by first | (with_reducible assumption) | assumption)) (by have h_ : (x6_1 : Int) < ((x5_1.length : Int) : Int) := of_decide_eq_true (by first | (with_reducible assumption) | assumption); first | exact h_ | (have e_ := (Kd.S_reads' HO_5.out).1; omega) | simpa using h_))); (try (obtain ⟨ve17_0, rfl, ge17_0⟩ := hM17)); (try (have HP17 := Kd.S_seg hH17 (of_decide_eq_true (by first | (with_reducible assumption) | assumption)) (by have h_ : (x6_1 : Int) < ((x5_1.length : Int) : Int) := of_decide_eq_true (by first | (with_reducible assumption) | assumption); first | exact h_ | (have e_ := (Kd.S_reads' HO_5.out).1; omega) | simpa using h_) (seg := [(.slice Aq454 y453.length cq454 : Value)]) (j := 0) (show 1 ≤ 1 from by decide) (x' := y453) (Kd.M_row (Kd.R_mono (Kd.R_tight rfl (Kd.R_mono (ok' := fun k_ => ((fun _ => True)) k_ ∧ k_ ≠ go14) (Kd.R_apart' (HO455.out) (Kd.S_typed HO_5.out) (by decide)) (fun k_ hk => ⟨trivial, fun e_ => (hk.2) (by rw [e_]; rfl)⟩))) (fun _ h_ => Or.inr (h_)))) (fun _ hk => hk) (fun k_ hk_ => ((Kd.R_mono (ok' := fun k_ => ((fun _ => True)) k_ ∧ k_ ≠ go14) (Kd.R_apart' (HO455.out) (Kd.S_typed HO_5.out) (by decide)) (fun k_ hk => ⟨trivial, fun e_ => (hk.2) (by rw [e_]; rfl)⟩))).1 k_ hk_.symm))); (try (have hx17_0 := hcc17 0 _ rfl)); (try (try simp only [show ((Kd.slice 3 (Kd.int .i64))).sz = 1 from rfl, Nat.mul_one, Nat.add_zero] at hx17_0)); (try (have hf17_0 := hfr17 0)); (try (try simp only [show ((Kd.slice 3 (Kd.int .i64))).sz = 1 from rfl, Nat.mul_one, Nat.add_zero] at hf17_0)); (try ((try clear hM17); clear hcl17 hcc17 hfr17 hoki17 hH17)); (try (try simp only [show ((Kd.slice 3 (Kd.int .i64))).sz = 1 from rfl, Nat.mul_one, Nat.add_zero] at HP17)))); refine store_event (t := 24) (p := 25) (v := ?vo_w18) (w1 := (w15.setCell ⟨go14, (x6_1 : Int).toNat, none⟩ ((.slice Aq454 y453.length cq454 : Value)))) ?hg ?ho ?hn ?hr ?_; (case ho => rfl); (case hg => rfl); (case hn => rfl); (case hr => (go_simp; done)); intro w18 hw; have hg : w15.grownBy w18 (some go14) := (by rw [hw]; exact HP17.2); have hp_ : Kd.S (Kd.slice 3 (Kd.int .i64)) 24 w18 w.heap.size (fun _ => True) (.slice (some ⟨go14, 0, none⟩) x5_1.length co14) y456 := (by rw [hw, Ny456.out]; exact HP17.1); clear HP17; have n0_ := Aside0.mk (hp_); have n1_ := Aside0.mk ((by rw [hw]; exact below_set (HB.out) GB14.out : Below w.heap.size w w18)); clear HO_5; clear HB; clear HO455; have HO_5 := n0_; have HB := n1_; clear n0_ n1_; clear hg hw hp_))
   repeat (go_quiet (first | ((with_reducible refine gate_dst (N := 24) rfl ?_); refine Kd.R_make (Kd.int .i64) _ 3 rfl (N := 24) rfl 24 _ _ rfl ji9 rfl rfl Try.underlying24 (.int .i64 0) 8 info3 rfl (by decide) (by omega) 0 (ok := fun _ => True) (okp := fun _ => True) rfl (fun _ hk => hk) trivial (of_decide_eq_true (by first | (with_reducible assumption) | assumption)) (Nat.le_trans (Nat.mul_le_mul_right _ (of_decide_eq_true (by first | (with_reducible assumption) | assumption) : ji9.toNat ≤ 35184372088832)) (by omega)) (Below.refl _ _) (Nat.le_refl _) ?_; intro v454 w15 ho16 hb hg_ hnew_; clear hg_ hnew_; (first | rw [← Ny453.out] at ho16 | (simp only [Int.reduceToNat] at ho16; rw [← Ny453.out] at ho16)); have n0_ := Aside0.mk (Kd.S_elder' (by (with_reducible repeat (first | apply Kd.S_alloc | apply Kd.S_drewN | apply Kd.S_drew)); exact HO_5.out) (Kd.R_base ho16) hb); have n1_ := Aside0.mk (Kd.R_lower ho16 (below_size HB.out)); have n2_ := Aside0.mk (below_step HB.out hb); clear HO_5; clear HB; have HO_5 := n0_; have HO455 := n1_; have HB := n2_; clear n0_ n1_ n2_; obtain ⟨Aq454, cq454, eq454⟩ := Kd.R_slice HO455.out; subst eq454; clear hb ho16; have p14 : 0 ≤ (x6_1 : Int) := of_decide_eq_true (by first | (with_reducible assumption) | assumption); have q14 : (x6_1 : Int) < ((x5_1.length : Int) : Int) := of_decide_eq_true (by first | (with_reducible assumption) | assumption); obtain ⟨go14, co14, eo14, gb14, gl14, cl14, HG14⟩ := Kd.S_form HO_5.out (by omega); (first | cases eo14 | (injection eo14 with ea_ en_ ec_; (first | subst ea_ | (injection ea_ with ea_; subst ea_)); subst ec_; clear en_)); have GB14 := Aside0.mk gb14; have GG14 := Aside0.mk HG14; clear gb14 gl14 HG14; obtain ⟨_, ce14, hcl14, hM14, hcc14, hfr14, _, _⟩ := Kd.S_elem HO_5.out [] (x6_1 : Int) p14 q14; obtain ⟨ve14_0, rfl, ge14_0⟩ := hM14; have hx14_0 := hcc14 0 _ rfl; have hf14_0 := hfr14 0; (try simp only [show ((Kd.slice 3 (Kd.int .i64))).sz = 1 from rfl, Nat.mul_one, Nat.add_zero] at hx14_0); (try simp only [show ((Kd.slice 3 (Kd.int .i64))).sz = 1 from rfl, Nat.mul_one, Nat.add_zero] at hf14_0); (try clear hM14); clear hcl14 hcc14 hfr14; replace p14 := eq_true p14; replace q14 := eq_true q14; have n_ := Aside0.mk (Kd.S_mono (ok' := (fun k_ => some k_ ≠ ((.slice Aq454 y453.length cq454 : Value) : Value).ownBlock)) HO_5.out (fun k_ hk => hk.2)); clear HO_5; have HO_5 := n_; clear n_; have HX17 := Aside0.mk (show Kd.S (Kd.slice 3 (Kd.int .i64)) 24 w15 w.heap.size (fun k_ => ((fun _ => True)) k_ ∧ ¬ ((fun k_ => some k_ = ((.slice Aq454 y453.length cq454 : Value) : Value).ownBlock)) k_) (.slice (some ⟨go14, 0, none⟩) x5_1.length co14) x5_1 from (by (with_reducible repeat (first | apply Kd.S_alloc | apply Kd.S_drewN | apply Kd.S_drew)); exact Kd.S_mono HO_5.out (fun k_ hk => ⟨trivial, fun e_ => hk e_⟩))); obtain ⟨oki17, ce17, hcl17, hM17, hcc17, hfr17, hoki17, hH17⟩ := Kd.S_elem HX17.out [] (x6_1 : Int) (of_decide_eq_true (by first | (with_reducible assumption) | assumption)) (by have h_ : (x6_1 : Int) < ((x5_1.length : Int) : Int) := of_decide_eq_true (by first | (with_reducible assumption) | assumption); first | exact h_ | (have e_ := (Kd.S_reads' HO_5.out).1; omega) | simpa using h_); obtain ⟨ve17_0, rfl, ge17_0⟩ := hM17; have HP17 := Kd.S_seg hH17 (of_decide_eq_true (by first | (with_reducible assumption) | assumption)) (by have h_ : (x6_1 : Int) < ((x5_1.length : Int) : Int) := of_decide_eq_true (by first | (with_reducible assumption) | assumption); first | exact h_ | (have e_ := (Kd.S_reads' HO_5.out).1; omega) | simpa using h_) (seg := [(.slice Aq454 y453.length cq454 : Value)]) (j := 0) (show 1 ≤ 1 from by decide) (x' := y453) (Kd.M_row (Kd.R_mono (Kd.R_tight rfl (Kd.R_mono (ok' := fun k_ => ((fun _ => True)) k_ ∧ k_ ≠ go14) (Kd.R_apart' (HO455.out) (Kd.S_typed HO_5.out) (by decide)) (fun k_ hk => ⟨trivial, fun e_ => (hk.2) (by rw [e_]; rfl)⟩))) (fun _ h_ => Or.inr (h_)))) (fun _ hk => hk) (fun k_ hk_ => ((Kd.R_mono (ok' := fun k_ => ((fun _ => True)) k_ ∧ k_ ≠ go14) (Kd.R_apart' (HO455.out) (Kd.S_typed HO_5.out) (by decide)) (fun k_ hk => ⟨trivial, fun e_ => (hk.2) (by rw [e_]; rfl)⟩))).1 k_ hk_.symm); have hx17_0 := hcc17 0 _ rfl; (try simp only [show ((Kd.slice 3 (Kd.int .i64))).sz = 1 from rfl, Nat.mul_one, Nat.add_zero] at hx17_0); have hf17_0 := hfr17 0; (try simp only [show ((Kd.slice 3 (Kd.int .i64))).sz = 1 from rfl, Nat.mul_one, Nat.add_zero] at hf17_0); (try clear hM17); clear hcl17 hcc17 hfr17 hoki17 hH17; (try simp only [show ((Kd.slice 3 (Kd.int .i64))).sz = 1 from rfl, Nat.mul_one, Nat.add_zero] at HP17)) | ((with_reducible refine gate_store (t := 24) (p := 25) rfl ?_); (try (rw [drewN_self w15]; generalize hq_ : World.drewN w15 _ = w15; have n0_ := Aside0.mk (Kd.S_at hq_ HO_5.out); have n1_ := Aside0.mk (below_at hq_ HB.out); clear hq_ HO_5 HB; have HO_5 := n0_; have HB := n1_; clear n0_ n1_; (try (have n_ := Aside0.mk (Kd.S_mono (ok' := (fun k_ => some k_ ≠ ((.slice Aq454 y453.length cq454 : Value) : Value).ownBlock)) HO_5.out (fun k_ hk => hk.2)); clear HO_5; have HO_5 := n_; clear n_)); (try (have HX17 := Aside0.mk (show Kd.S (Kd.slice 3 (Kd.int .i64)) 24 w15 w.heap.size (fun k_ => ((fun _ => True)) k_ ∧ ¬ ((fun k_ => some k_ = ((.slice Aq454 y453.length cq454 : Value) : Value).ownBlock)) k_) (.slice (some ⟨go14, 0, none⟩) x5_1.length co14) x5_1 from (by (with_reducible repeat (first | apply Kd.S_alloc | apply Kd.S_drewN | apply Kd.S_drew)); exact Kd.S_mono HO_5.out (fun k_ hk => ⟨trivial, fun e_ => hk e_⟩))))); (try (obtain ⟨oki17, ce17, hcl17, hM17, hcc17, hfr17, hoki17, hH17⟩ := Kd.S_elem HX17.out [] (x6_1 : Int) (of_decide_eq_true (by first | (with_reducible assumption) | assumption)) (by have h_ : (x6_1 : Int) < ((x5_1.length : Int) : Int) := of_decide_eq_true (by first | (with_reducible assumption) | assumption); first | exact h_ | (have e_ := (Kd.S_reads' HO_5.out).1; omega) | simpa using h_))); (try (obtain ⟨ve17_0, rfl, ge17_0⟩ := hM17)); (try (have HP17 := Kd.S_seg hH17 (of_decide_eq_true (by first | (with_reducible assumption) | assumption)) (by have h_ : (x6_1 : Int) < ((x5_1.length : Int) : Int) := of_decide_eq_true (by first | (with_reducible assumption) | assumption); first | exact h_ | (have e_ := (Kd.S_reads' HO_5.out).1; omega) | simpa using h_) (seg := [(.slice Aq454 y453.length cq454 : Value)]) (j := 0) (show 1 ≤ 1 from by decide) (x' := y453) (Kd.M_row (Kd.R_mono (Kd.R_tight rfl (Kd.R_mono (ok' := fun k_ => ((fun _ => True)) k_ ∧ k_ ≠ go14) (Kd.R_apart' (HO455.out) (Kd.S_typed HO_5.out) (by decide)) (fun k_ hk => ⟨trivial, fun e_ => (hk.2) (by rw [e_]; rfl)⟩))) (fun _ h_ => Or.inr (h_)))) (fun _ hk => hk) (fun k_ hk_ => ((Kd.R_mono (ok' := fun k_ => ((fun _ => True)) k_ ∧ k_ ≠ go14) (Kd.R_apart' (HO455.out) (Kd.S_typed HO_5.out) (by decide)) (fun k_ hk => ⟨trivial, fun e_ => (hk.2) (by rw [e_]; rfl)⟩))).1 k_ hk_.symm))); (try (have hx17_0 := hcc17 0 _ rfl)); (try (try simp only [show ((Kd.slice 3 (Kd.int .i64))).sz = 1 from rfl, Nat.mul_one, Nat.add_zero] at hx17_0)); (try (have hf17_0 := hfr17 0)); (try (try simp only [show ((Kd.slice 3 (Kd.int .i64))).sz = 1 from rfl, Nat.mul_one, Nat.add_zero] at hf17_0)); (try ((try clear hM17); clear hcl17 hcc17 hfr17 hoki17 hH17)); (try (try simp only [show ((Kd.slice 3 (Kd.int .i64))).sz = 1 from rfl, Nat.mul_one, Nat.add_zero] at HP17)))); refine store_event (t := 24) (p := 25) (v := ?vo_w18) (w1 := (w15.setCell ⟨go14, (x6_1 : Int).toNat, none⟩ ((.slice Aq454 y453.length cq454 : Value)))) ?hg ?ho ?hn ?hr ?_; (case ho => rfl); (case hg => rfl); (case hn => rfl); (case hr => first | (go_simp; done) | (go_simp; rfl)); intro w18 hw; have hg : w15.grownBy w18 (some go14) := (by rw [hw]; exact HP17.2); have hp_ : Kd.S (Kd.slice 3 (Kd.int .i64)) 24 w18 w.heap.size (fun _ => True) (.slice (some ⟨go14, 0, none⟩) x5_1.length co14) y456 := (by rw [hw, Ny456.out]; exact HP17.1); clear HP17; have n0_ := Aside0.mk (hp_); have n1_ := Aside0.mk ((by rw [hw]; exact below_set (HB.out) GB14.out : Below w.heap.size w w18)); clear HO_5; clear HB; clear HO455; have HO_5 := n0_; have HB := n1_; clear n0_ n1_; clear hg hw hp_)); try go_wp2_with (first | ((with_reducible refine gate_dst (N := 24) rfl ?_); refine Kd.R_make (Kd.int .i64) _ 3 rfl (N := 24) rfl 24 _ _ rfl ji9 rfl rfl Try.underlying24 (.int .i64 0) 8 info3 rfl (by decide) (by omega) 0 (ok := fun _ => True) (okp := fun _ => True) rfl (fun _ hk => hk) trivial (of_decide_eq_true (by first | (with_reducible assumption) | assumption)) (Nat.le_trans (Nat.mul_le_mul_right _ (of_decide_eq_true (by first | (with_reducible assumption) | assumption) : ji9.toNat ≤ 35184372088832)) (by omega)) (Below.refl _ _) (Nat.le_refl _) ?_; intro v454 w15 ho16 hb hg_ hnew_; clear hg_ hnew_; (first | rw [← Ny453.out] at ho16 | (simp only [Int.reduceToNat] at ho16; rw [← Ny453.out] at ho16)); have n0_ := Aside0.mk (Kd.S_elder' (by (with_reducible repeat (first | apply Kd.S_alloc | apply Kd.S_drewN | apply Kd.S_drew)); exact HO_5.out) (Kd.R_base ho16) hb); have n1_ := Aside0.mk (Kd.R_lower ho16 (below_size HB.out)); have n2_ := Aside0.mk (below_step HB.out hb); clear HO_5; clear HB; have HO_5 := n0_; have HO455 := n1_; have HB := n2_; clear n0_ n1_ n2_; clear hb ho16; have p14 : 0 ≤ (x6_1 : Int) := of_decide_eq_true (by first | (with_reducible assumption) | assumption); have q14 : (x6_1 : Int) < ((x5_1.length : Int) : Int) := of_decide_eq_true (by first | (with_reducible assumption) | assumption); obtain ⟨go14, co14, eo14, gb14, gl14, cl14, HG14⟩ := Kd.S_form HO_5.out (by omega); (first | cases eo14 | (injection eo14 with ea_ en_ ec_; (first | subst ea_ | (injection ea_ with ea_; subst ea_)); subst ec_; clear en_)); have GB14 := Aside0.mk gb14; have GG14 := Aside0.mk HG14; clear gb14 gl14 HG14; obtain ⟨_, ce14, hcl14, hM14, hcc14, hfr14, _, _⟩ := Kd.S_elem HO_5.out [] (x6_1 : Int) p14 q14; obtain ⟨ve14_0, rfl, ge14_0⟩ := hM14; have hx14_0 := hcc14 0 _ rfl; have hf14_0 := hfr14 0; (try simp only [show ((Kd.slice 3 (Kd.int .i64))).sz = 1 from rfl, Nat.mul_one, Nat.add_zero] at hx14_0); (try simp only [show ((Kd.slice 3 (Kd.int .i64))).sz = 1 from rfl, Nat.mul_one, Nat.add_zero] at hf14_0); (try clear hM14); clear hcl14 hcc14 hfr14; replace p14 := eq_true p14; replace q14 := eq_true q14; have n_ := Aside0.mk (Kd.S_mono (ok' := (fun k_ => some k_ ≠ (v454 : Value).ownBlock)) HO_5.out (fun k_ hk => hk.2)); clear HO_5; have HO_5 := n_; clear n_; have HX17 := Aside0.mk (show Kd.S (Kd.slice 3 (Kd.int .i64)) 24 w15 w.heap.size (fun k_ => ((fun _ => True)) k_ ∧ ¬ ((fun k_ => some k_ = (v454 : Value).ownBlock)) k_) (.slice (some ⟨go14, 0, none⟩) x5_1.length co14) x5_1 from (by (with_reducible repeat (first | apply Kd.S_alloc | apply Kd.S_drewN | apply Kd.S_drew)); exact Kd.S_mono HO_5.out (fun k_ hk => ⟨trivial, fun e_ => hk e_⟩))); obtain ⟨oki17, ce17, hcl17, hM17, hcc17, hfr17, hoki17, hH17⟩ := Kd.S_elem HX17.out [] (x6_1 : Int) (of_decide_eq_true (by first | (with_reducible assumption) | assumption)) (by have h_ : (x6_1 : Int) < ((x5_1.length : Int) : Int) := of_decide_eq_true (by first | (with_reducible assumption) | assumption); first | exact h_ | (have e_ := (Kd.S_reads' HO_5.out).1; omega) | simpa using h_); obtain ⟨ve17_0, rfl, ge17_0⟩ := hM17; have HP17 := Kd.S_seg hH17 (of_decide_eq_true (by first | (with_reducible assumption) | assumption)) (by have h_ : (x6_1 : Int) < ((x5_1.length : Int) : Int) := of_decide_eq_true (by first | (with_reducible assumption) | assumption); first | exact h_ | (have e_ := (Kd.S_reads' HO_5.out).1; omega) | simpa using h_) (seg := [v454]) (j := 0) (show 1 ≤ 1 from by decide) (x' := y453) (Kd.M_row (Kd.R_mono (Kd.R_tight rfl (Kd.R_mono (ok' := fun k_ => ((fun _ => True)) k_ ∧ k_ ≠ go14) (Kd.R_apart' (HO455.out) (Kd.S_typed HO_5.out) (by decide)) (fun k_ hk => ⟨trivial, fun e_ => (hk.2) (by rw [e_]; rfl)⟩))) (fun _ h_ => Or.inr (h_)))) (fun _ hk => hk) (fun k_ hk_ => ((Kd.R_mono (ok' := fun k_ => ((fun _ => True)) k_ ∧ k_ ≠ go14) (Kd.R_apart' (HO455.out) (Kd.S_typed HO_5.out) (by decide)) (fun k_ hk => ⟨trivial, fun e_ => (hk.2) (by rw [e_]; rfl)⟩))).1 k_ hk_.symm); have hx17_0 := hcc17 0 _ rfl; (try simp only [show ((Kd.slice 3 (Kd.int .i64))).sz = 1 from rfl, Nat.mul_one, Nat.add_zero] at hx17_0); have hf17_0 := hfr17 0; (try simp only [show ((Kd.slice 3 (Kd.int .i64))).sz = 1 from rfl, Nat.mul_one, Nat.add_zero] at hf17_0); (try clear hM17); clear hcl17 hcc17 hfr17 hoki17 hH17; (try simp only [show ((Kd.slice 3 (Kd.int .i64))).sz = 1 from rfl, Nat.mul_one, Nat.add_zero] at HP17)) | ((with_reducible refine gate_store (t := 24) (p := 25) rfl ?_); (try (rw [drewN_self w15]; generalize hq_ : World.drewN w15 _ = w15; have n0_ := Aside0.mk (Kd.S_at hq_ HO_5.out); have n1_ := Aside0.mk (below_at hq_ HB.out); clear hq_ HO_5 HB; have HO_5 := n0_; have HB := n1_; clear n0_ n1_; (try (have n_ := Aside0.mk (Kd.S_mono (ok' := (fun k_ => some k_ ≠ (v454 : Value).ownBlock)) HO_5.out (fun k_ hk => hk.2)); clear HO_5; have HO_5 := n_; clear n_)); (try (have HX17 := Aside0.mk (show Kd.S (Kd.slice 3 (Kd.int .i64)) 24 w15 w.heap.size (fun k_ => ((fun _ => True)) k_ ∧ ¬ ((fun k_ => some k_ = (v454 : Value).ownBlock)) k_) (.slice (some ⟨go14, 0, none⟩) x5_1.length co14) x5_1 from (by (with_reducible repeat (first | apply Kd.S_alloc | apply Kd.S_drewN | apply Kd.S_drew)); exact Kd.S_mono HO_5.out (fun k_ hk => ⟨trivial, fun e_ => hk e_⟩))))); (try (obtain ⟨oki17, ce17, hcl17, hM17, hcc17, hfr17, hoki17, hH17⟩ := Kd.S_elem HX17.out [] (x6_1 : Int) (of_decide_eq_true (by first | (with_reducible assumption) | assumption)) (by have h_ : (x6_1 : Int) < ((x5_1.length : Int) : Int) := of_decide_eq_true (by first | (with_reducible assumption) | assumption); first | exact h_ | (have e_ := (Kd.S_reads' HO_5.out).1; omega) | simpa using h_))); (try (obtain ⟨ve17_0, rfl, ge17_0⟩ := hM17)); (try (have HP17 := Kd.S_seg hH17 (of_decide_eq_true (by first | (with_reducible assumption) | assumption)) (by have h_ : (x6_1 : Int) < ((x5_1.length : Int) : Int) := of_decide_eq_true (by first | (with_reducible assumption) | assumption); first | exact h_ | (have e_ := (Kd.S_reads' HO_5.out).1; omega) | simpa using h_) (seg := [v454]) (j := 0) (show 1 ≤ 1 from by decide) (x' := y453) (Kd.M_row (Kd.R_mono (Kd.R_tight rfl (Kd.R_mono (ok' := fun k_ => ((fun _ => True)) k_ ∧ k_ ≠ go14) (Kd.R_apart' (HO455.out) (Kd.S_typed HO_5.out) (by decide)) (fun k_ hk => ⟨trivial, fun e_ => (hk.2) (by rw [e_]; rfl)⟩))) (fun _ h_ => Or.inr (h_)))) (fun _ hk => hk) (fun k_ hk_ => ((Kd.R_mono (ok' := fun k_ => ((fun _ => True)) k_ ∧ k_ ≠ go14) (Kd.R_apart' (HO455.out) (Kd.S_typed HO_5.out) (by decide)) (fun k_ hk => ⟨trivial, fun e_ => (hk.2) (by rw [e_]; rfl)⟩))).1 k_ hk_.symm))); (try (have hx17_0 := hcc17 0 _ rfl)); (try (try simp only [show ((Kd.slice 3 (Kd.int .i64))).sz = 1 from rfl, Nat.mul_one, Nat.add_zero] at hx17_0)); (try (have hf17_0 := hfr17 0)); (try (try simp only [show ((Kd.slice 3 (Kd.int .i64))).sz = 1 from rfl, Nat.mul_one, Nat.add_zero] at hf17_0)); (try ((try clear hM17); clear hcl17 hcc17 hfr17 hoki17 hH17)); (try (try simp only [show ((Kd.slice 3 (Kd.int .i64))).sz = 1 from rfl, Nat.mul_one, Nat.add_zero] at HP17)))); refine store_event (t := 24) (p := 25) (v := ?vo_w18) (w1 := (w15.setCell ⟨go14, (x6_1 : Int).toNat, none⟩ (v454))) ?hg ?ho ?hn ?hr ?_; (case ho => rfl); (case hg => rfl); (case hn => rfl); (case hr => first | (go_simp; done) | (go_simp; rfl)); intro w18 hw; have hg : w15.grownBy w18 (some go14) := (by rw [hw]; exact HP17.2); have hp_ : Kd.S (Kd.slice 3 (Kd.int .i64)) 24 w18 w.heap.size (fun _ => True) (.slice (some ⟨go14, 0, none⟩) x5_1.length co14) y456 := (by rw [hw, Ny456.out]; exact HP17.1); clear HP17; have n0_ := Aside0.mk (hp_); have n1_ := Aside0.mk ((by rw [hw]; exact below_set (HB.out) GB14.out : Below w.heap.size w w18)); clear HO_5; clear HB; clear HO455; have HO_5 := n0_; have HB := n1_; clear n0_ n1_; clear hg hw hp_)))
   go_loopg [7] k1 (fun kq v7 w' => ∃ (x5_2 : List (List Int)) (x7_2 : Int), v7 = .int .i64 x7_2 ∧ Aside0 (spec_l05Table.l1 kq a0 a1 x5_2 x6_1 x7_2 = some r) ∧ Aside0 (kq ≤ k1) ∧ Aside0 (Kd.S (Kd.slice 3 (Kd.int .i64)) 24 w' w.heap.size (fun _ => True) (.slice (some ⟨go14, 0, none⟩) x5_1.length co14) x5_2) ∧ Aside0 (Below w.heap.size w w'))
   case atStart => exact ⟨(y456), ((a1.size : Int)), (by rfl), H', ⟨Nat.le_refl _⟩, ⟨by (with_reducible repeat (first | apply Kd.S_alloc | apply Kd.S_drewN | apply Kd.S_drew)); exact HO_5.out⟩, ⟨by repeat ((with_reducible exact HB.out))⟩⟩
   case round =>
    clear H'
    try clear c1
    try clear p1
    try clear q1
    try clear hx1
    try clear p2
    try clear c4
    try clear c4b0
    try clear c4b1
    try clear c5
    try clear c5b0
    try clear c5b1
    try clear p6
    try clear c8
    try clear c8b0
    try clear c10
    try clear c10b0
    try clear c10b1
    try clear c11
    try clear c11b0
    try clear c11b1
    try clear c12
    try clear c12b0
    try clear c13
    try clear c13b0
    try clear c14
    try clear p14
    try clear q14
    try clear hx14
    try clear hf14
    try clear c17
    try clear hx17
    try clear hf17
    try clear hx14_0
    try clear hx17_0
    try clear p14
    try clear p2
    try clear p6
    try clear q14
    obtain ⟨x5_2, x7_2, rfl, HA, HK2, HO_5, HB⟩ := hrel
    have hl5_2 := (Kd.S_reads' HO_5.out).1
    rw [hl5_2] at HO_5
    (try simp only [hl5_2])
    cases gk with
    | zero => exact absurd HA.out (by simp [spec_l05Table.l1])
    | succ k2 =>
     have H := HA.out
     clear HA
     simp only [spec_l05Table.l1] at H
     by_cases c19 : x7_2 ≥ 0
     rotate_left
     ·
      rw [if_neg c19] at H
      have c19b0 : decide (0 ≤ x7_2) = false := decide_eq_false c19
      clear c19
      have H' := Aside0.mk H
      clear H
      go_wp2
      repeat (go_quiet (fail); try go_wp2)
      (try simp only [← hl5_2])
      go_roundg k2
      case measure => have := HK1.out; have := HK2.out; omega
      case rel => exact ⟨(x5_2), (wrap64 (x6_1 - 1)), (by rfl), H', ⟨by have := HK1.out; have := HK2.out; omega⟩, ⟨by (try simp only [hl5_2]); (with_reducible repeat (first | apply Kd.S_alloc | apply Kd.S_drewN | apply Kd.S_drew)); exact HO_5.out⟩, ⟨by repeat ((with_reducible exact HB.out))⟩⟩
     rw [if_pos c19] at H
     have c19b0 : decide (0 ≤ x7_2) = true := decide_eq_true c19
     clear c19
     by_cases c20 : x6_1 = (a0.size : Int)
     ·
      rw [if_pos c20] at H
      have c20b0 : (x6_1 == (a0.size : Int)) = true := beq_iff_eq.mpr c20
      have c20b1 : (x6_1 != (a0.size : Int)) = false := bne_eq_false_iff_eq.mpr c20
      clear c20
      by_cases c21 : 0 ≤ x6_1
      rotate_left
      ·
       rw [if_neg c21] at H
       exact absurd H (by simp)
      rw [if_pos c21] at H
      have c21b0 : decide (0 ≤ x6_1) = true := decide_eq_true c21
      clear c21
      by_cases c22 : x6_1 < (x5_2.length : Int)
      rotate_left
      ·
       rw [if_neg c22] at H
       exact absurd H (by simp)
      rw [if_pos c22] at H
      have c22b0 : decide (x6_1 < (x5_2.length : Int)) = true := decide_eq_true c22
      clear c22
      by_cases c23 : 0 ≤ x7_2
      rotate_left
      ·
       rw [if_neg c23] at H
       exact absurd H (by simp)
      rw [if_pos c23] at H
      have c23b0 : decide (0 ≤ x7_2) = true := decide_eq_true c23
      clear c23
      by_cases c24 : x7_2 < ((rd_L4 x5_2 x6_1).length : Int)
      rotate_left
      ·
       rw [if_neg c24] at H
       exact absurd H (by simp)
      rw [if_pos c24] at H
      have c24b0 : decide (x7_2 < ((rd_L4 x5_2 x6_1).length : Int)) = true := decide_eq_true c24
      clear c24
      obtain ⟨y458, hy458⟩ : ∃ y_ : List Int, y_ = ((rd_L4 x5_2 x6_1).set (x7_2 : Int).toNat (wrap64 ((a1.size : Int) - x7_2))) := ⟨_, rfl⟩
      replace H : (spec_l05Table.l1 k2 a0 a1 (x5_2.set (x6_1 : Int).toNat y458) x6_1 (wrap64 (x7_2 - 1))) = some r := by (rw [hy458]; with_reducible exact H)
      have Ny458 := Aside0.mk hy458
      clear hy458
      obtain ⟨y460, hy460⟩ : ∃ y_ : List (List Int), y_ = (x5_2.set (x6_1 : Int).toNat y458) := ⟨_, rfl⟩
      replace H : (spec_l05Table.l1 k2 a0 a1 y460 x6_1 (wrap64 (x7_2 - 1))) = some r := by (rw [hy460]; with_reducible exact H)
      have Ny460 := Aside0.mk hy460
      clear hy460
      have H' := Aside0.mk H
      clear H
      have p457 : 0 ≤ (x6_1 : Int) := of_decide_eq_true (by (with_reducible assumption))
      have q457 : x6_1 < (x5_2.length : Int) := of_decide_eq_true (by (with_reducible assumption))
      obtain ⟨ad457, A457_0, c457_0, e457, hx457_0, hl457_0, hi457_0⟩ := at_L4 (Kd.S_reads' HO_5.out).2.2 x6_1 p457 q457
      obtain rfl : (⟨go14, 0, none⟩ : Addr) = ad457 := (by injection e457)
      obtain ⟨ce457, hce457, hMe457, hcc457⟩ := Kd.S_get HO_5.out [] x6_1 p457 (by exact q457)
      obtain ⟨ve457_0, rfl, ge457_0⟩ := hMe457
      have hv457_0 := hcc457 0 _ rfl
      rw [Nat.add_zero, show ((Kd.slice 3 (Kd.int .i64))).sz = 1 from rfl, Nat.mul_one] at hv457_0
      replace hv457_0 := Option.some.inj (hv457_0.symm.trans hx457_0)
      rw [hv457_0] at ge457_0
      have HL457_0 := Aside0.mk (show Kd.R (Kd.int .i64) 3 _ _ _ _ (rd_L4 x5_2 x6_1) from ge457_0)
      clear hv457_0 ge457_0
      have HX457_0 := Aside0.mk hx457_0
      clear hcc457 hce457
      (simp only [add_plain] at hx457_0)
      have HR457_0 := Aside0.mk hi457_0
      have HC457_0 := Aside0.mk hl457_0
      clear hi457_0 hl457_0
      replace p457 := eq_true p457
      replace q457 := eq_true q457
      have p25 : 0 ≤ (x7_2 : Int) := of_decide_eq_true (by (with_reducible assumption))
      have q25 : (x7_2 : Int) < (((rd_L4 x5_2 x6_1).length : Int) : Int) := of_decide_eq_true (by (with_reducible assumption))
      obtain ⟨go25, co25, eo25, gb25, gl25, cl25, HG25⟩ := Kd.R_form HL457_0.out (by omega)
      (cases eo25)
      have GB25 := Aside0.mk gb25
      have GG25 := Aside0.mk HG25
      clear gb25 gl25 HG25
      obtain ⟨hx25_0, hf25_0⟩ := Kd.R_celln 0 HL457_0.out (x7_2 : Int) p25 q25
      replace p25 := eq_true p25
      replace q25 := eq_true q25
      have hq26 : (x6_1 : Int) < (x5_2.length : Int) := (by have h_ : (x6_1 : Int) < ((x5_2.length : Int) : Int) := of_decide_eq_true (by (with_reducible assumption)); exact h_)
      obtain ⟨oki26, ce26, hcl26, hM26, hcc26, hok26, hbk26⟩ := Kd.S_borrow HO_5.out [] (x6_1 : Int) (of_decide_eq_true (by (with_reducible assumption))) hq26
      obtain ⟨ve26_0, rfl, ge26_0⟩ := hM26
      have hv26 := hcc26 0 _ rfl
      rw [Nat.add_zero, show ((Kd.slice 3 (Kd.int .i64))).sz = 1 from rfl, Nat.mul_one] at hv26
      replace hv26 := Option.some.inj (hv26.symm.trans HX457_0.out)
      subst hv26
      clear hcc26 hcl26
      replace ge26_0 := (show Kd.R (Kd.int .i64) 3 _ _ _ _ (rd_L4 x5_2 x6_1) from ge26_0)
      have HP26 := Kd.R_putg ge26_0 (x7_2 : Int) (wrap64 ((a1.size : Int) - x7_2))
      go_wp2_with (((with_reducible refine gate_store (t := 3) (p := 98) rfl ?_); (try (rw [drewN_self wr]; generalize hq_ : World.drewN wr _ = wr; have n0_ := Aside0.mk (Kd.S_at hq_ HO_5.out); have n1_ := Aside0.mk (below_at hq_ HB.out); have n2_ := Aside0.mk (cell_at hq_ HX457_0.out); clear HX457_0; have HX457_0 := n2_; clear n2_; clear hq_ HO_5 HB; have HO_5 := n0_; have HB := n1_; clear n0_ n1_; (try (have hq26 : (x6_1 : Int) < (x5_2.length : Int) := (by have h_ : (x6_1 : Int) < ((x5_2.length : Int) : Int) := of_decide_eq_true (by first | (with_reducible assumption) | assumption); first | exact h_ | (have e_ := (Kd.S_reads' HO_5.out).1; omega) | simpa only [List.length_set, List.length_set] using h_))); (try (obtain ⟨oki26, ce26, hcl26, hM26, hcc26, hok26, hbk26⟩ := Kd.S_borrow HO_5.out [] (x6_1 : Int) (of_decide_eq_true (by first | (with_reducible assumption) | assumption)) hq26)); (try (obtain ⟨ve26_0, rfl, ge26_0⟩ := hM26)); (try (have hv26 := hcc26 0 _ rfl)); (try (rw [Nat.add_zero, show ((Kd.slice 3 (Kd.int .i64))).sz = 1 from rfl, Nat.mul_one] at hv26)); (try (replace hv26 := Option.some.inj (hv26.symm.trans HX457_0.out))); (try (subst hv26)); (try (clear hcc26 hcl26)); (try (replace ge26_0 := (show Kd.R (Kd.int .i64) 3 _ _ _ _ (rd_L4 x5_2 x6_1) from ge26_0))); (try (obtain ⟨hxs_, hfs_⟩ := Kd.R_celln 0 ge26_0 (x7_2 : Int) (of_eq_true p25) (of_eq_true q25))); (try (have HP26 := Kd.R_putg ge26_0 (x7_2 : Int) (wrap64 ((a1.size : Int) - x7_2)))))); refine store_event (t := 3) (p := 98) (v := ?vo_w27) (w1 := (wr.setCell ⟨go25, (x7_2 : Int).toNat, none⟩ (.int .i64 (wrap64 ((a1.size : Int) - x7_2))))) ?hg ?ho ?hn ?hr ?_; (case ho => rfl); (case hg => rfl); (case hn => rfl); (case hr => (go_simp; done)); intro w27 hw; have hg : wr.grownBy w27 (some go25) := (by rw [hw]; exact HP26.2); have hz_ : Kd.R (Kd.int .i64) 3 w27 w.heap.size oki26 (.slice (some ⟨go25, 0, none⟩) (rd_L4 x5_2 x6_1).length c457_0) y458 := (by rw [hw, Ny458.out]; exact HP26.1); have hp_ : Kd.S (Kd.slice 3 (Kd.int .i64)) 24 w27 w.heap.size (fun _ => True) (.slice (some ⟨go14, 0, none⟩) x5_2.length co14) y460 := (by rw [Ny460.out]; exact hbk26 hg (fun k_ e_ => by injection e_ with e_; subst e_; exact ge26_0.1 _ rfl) (Kd.M_row hz_)); have hm_ := Kd.R_mono hz_ hok26; clear HP26 hbk26; have n0_ := Aside0.mk (hp_); have n1_ := Aside0.mk ((by rw [hw]; exact below_set (HB.out) GB25.out : Below w.heap.size w w27)); have n2_ := Aside0.mk (hm_); have n3_ := Aside0.mk ((Kd.R_reads' hm_).2.1); clear HO_5; clear HB; clear HL457_0; have HO_5 := n0_; have HB := n1_; have HL481 := n2_; have HC459 := n3_; clear n0_ n1_ n2_ n3_; clear hg hw hp_ hz_ hm_ hok26))
      repeat (go_quiet (((with_reducible refine gate_store (t := 3) (p := 98) rfl ?_); (try (rw [drewN_self wr]; generalize hq_ : World.drewN wr _ = wr; have n0_ := Aside0.mk (Kd.S_at hq_ HO_5.out); have n1_ := Aside0.mk (below_at hq_ HB.out); have n2_ := Aside0.mk (cell_at hq_ HX457_0.out); clear HX457_0; have HX457_0 := n2_; clear n2_; clear hq_ HO_5 HB; have HO_5 := n0_; have HB := n1_; clear n0_ n1_; (try (have hq26 : (x6_1 : Int) < (x5_2.length : Int) := (by have h_ : (x6_1 : Int) < ((x5_2.length : Int) : Int) := of_decide_eq_true (by first | (with_reducible assumption) | assumption); first | exact h_ | (have e_ := (Kd.S_reads' HO_5.out).1; omega) | simpa only [List.length_set, List.length_set] using h_))); (try (obtain ⟨oki26, ce26, hcl26, hM26, hcc26, hok26, hbk26⟩ := Kd.S_borrow HO_5.out [] (x6_1 : Int) (of_decide_eq_true (by first | (with_reducible assumption) | assumption)) hq26)); (try (obtain ⟨ve26_0, rfl, ge26_0⟩ := hM26)); (try (have hv26 := hcc26 0 _ rfl)); (try (rw [Nat.add_zero, show ((Kd.slice 3 (Kd.int .i64))).sz = 1 from rfl, Nat.mul_one] at hv26)); (try (replace hv26 := Option.some.inj (hv26.symm.trans HX457_0.out))); (try (subst hv26)); (try (clear hcc26 hcl26)); (try (replace ge26_0 := (show Kd.R (Kd.int .i64) 3 _ _ _ _ (rd_L4 x5_2 x6_1) from ge26_0))); (try (obtain ⟨hxs_, hfs_⟩ := Kd.R_celln 0 ge26_0 (x7_2 : Int) (of_eq_true p25) (of_eq_true q25))); (try (have HP26 := Kd.R_putg ge26_0 (x7_2 : Int) (wrap64 ((a1.size : Int) - x7_2)))))); refine store_event (t := 3) (p := 98) (v := ?vo_w27) (w1 := (wr.setCell ⟨go25, (x7_2 : Int).toNat, none⟩ (.int .i64 (wrap64 ((a1.size : Int) - x7_2))))) ?hg ?ho ?hn ?hr ?_; (case ho => rfl); (case hg => rfl); (case hn => rfl); (case hr => first | (go_simp; done) | (go_simp; rfl)); intro w27 hw; have hg : wr.grownBy w27 (some go25) := (by rw [hw]; exact HP26.2); have hz_ : Kd.R (Kd.int .i64) 3 w27 w.heap.size oki26 (.slice (some ⟨go25, 0, none⟩) (rd_L4 x5_2 x6_1).length c457_0) y458 := (by rw [hw, Ny458.out]; exact HP26.1); have hp_ : Kd.S (Kd.slice 3 (Kd.int .i64)) 24 w27 w.heap.size (fun _ => True) (.slice (some ⟨go14, 0, none⟩) x5_2.length co14) y460 := (by rw [Ny460.out]; exact hbk26 hg (fun k_ e_ => by injection e_ with e_; subst e_; exact ge26_0.1 _ rfl) (Kd.M_row hz_)); have hm_ := Kd.R_mono hz_ hok26; clear HP26 hbk26; have n0_ := Aside0.mk (hp_); have n1_ := Aside0.mk ((by rw [hw]; exact below_set (HB.out) GB25.out : Below w.heap.size w w27)); have n2_ := Aside0.mk (hm_); have n3_ := Aside0.mk ((Kd.R_reads' hm_).2.1); clear HO_5; clear HB; clear HL457_0; have HO_5 := n0_; have HB := n1_; have HL481 := n2_; have HC459 := n3_; clear n0_ n1_ n2_ n3_; clear hg hw hp_ hz_ hm_ hok26)); try go_wp2_with (((with_reducible refine gate_store (t := 3) (p := 98) rfl ?_); (try (rw [drewN_self wr]; generalize hq_ : World.drewN wr _ = wr; have n0_ := Aside0.mk (Kd.S_at hq_ HO_5.out); have n1_ := Aside0.mk (below_at hq_ HB.out); have n2_ := Aside0.mk (cell_at hq_ HX457_0.out); clear HX457_0; have HX457_0 := n2_; clear n2_; clear hq_ HO_5 HB; have HO_5 := n0_; have HB := n1_; clear n0_ n1_; (try (have hq26 : (x6_1 : Int) < (x5_2.length : Int) := (by have h_ : (x6_1 : Int) < ((x5_2.length : Int) : Int) := of_decide_eq_true (by first | (with_reducible assumption) | assumption); first | exact h_ | (have e_ := (Kd.S_reads' HO_5.out).1; omega) | simpa only [List.length_set, List.length_set] using h_))); (try (obtain ⟨oki26, ce26, hcl26, hM26, hcc26, hok26, hbk26⟩ := Kd.S_borrow HO_5.out [] (x6_1 : Int) (of_decide_eq_true (by first | (with_reducible assumption) | assumption)) hq26)); (try (obtain ⟨ve26_0, rfl, ge26_0⟩ := hM26)); (try (have hv26 := hcc26 0 _ rfl)); (try (rw [Nat.add_zero, show ((Kd.slice 3 (Kd.int .i64))).sz = 1 from rfl, Nat.mul_one] at hv26)); (try (replace hv26 := Option.some.inj (hv26.symm.trans HX457_0.out))); (try (subst hv26)); (try (clear hcc26 hcl26)); (try (replace ge26_0 := (show Kd.R (Kd.int .i64) 3 _ _ _ _ (rd_L4 x5_2 x6_1) from ge26_0))); (try (obtain ⟨hxs_, hfs_⟩ := Kd.R_celln 0 ge26_0 (x7_2 : Int) (of_eq_true p25) (of_eq_true q25))); (try (have HP26 := Kd.R_putg ge26_0 (x7_2 : Int) (wrap64 ((a1.size : Int) - x7_2)))))); refine store_event (t := 3) (p := 98) (v := ?vo_w27) (w1 := (wr.setCell ⟨go25, (x7_2 : Int).toNat, none⟩ (.int .i64 (wrap64 ((a1.size : Int) - x7_2))))) ?hg ?ho ?hn ?hr ?_; (case ho => rfl); (case hg => rfl); (case hn => rfl); (case hr => first | (go_simp; done) | (go_simp; rfl)); intro w27 hw; have hg : wr.grownBy w27 (some go25) := (by rw [hw]; exact HP26.2); have hz_ : Kd.R (Kd.int .i64) 3 w27 w.heap.size oki26 (.slice (some ⟨go25, 0, none⟩) (rd_L4 x5_2 x6_1).length c457_0) y458 := (by rw [hw, Ny458.out]; exact HP26.1); have hp_ : Kd.S (Kd.slice 3 (Kd.int .i64)) 24 w27 w.heap.size (fun _ => True) (.slice (some ⟨go14, 0, none⟩) x5_2.length co14) y460 := (by rw [Ny460.out]; exact hbk26 hg (fun k_ e_ => by injection e_ with e_; subst e_; exact ge26_0.1 _ rfl) (Kd.M_row hz_)); have hm_ := Kd.R_mono hz_ hok26; clear HP26 hbk26; have n0_ := Aside0.mk (hp_); have n1_ := Aside0.mk ((by rw [hw]; exact below_set (HB.out) GB25.out : Below w.heap.size w w27)); have n2_ := Aside0.mk (hm_); have n3_ := Aside0.mk ((Kd.R_reads' hm_).2.1); clear HO_5; clear HB; clear HL457_0; have HO_5 := n0_; have HB := n1_; have HL481 := n2_; have HC459 := n3_; clear n0_ n1_ n2_ n3_; clear hg hw hp_ hz_ hm_ hok26)))
      (try simp only [← hl5_2])
      go_roundg k2
      case measure => have := HK1.out; have := HK2.out; omega
      case rel => exact ⟨(y460), (wrap64 (x7_2 - 1)), (by rfl), H', ⟨by have := HK1.out; have := HK2.out; omega⟩, ⟨by (try simp only [hl5_2]); (with_reducible repeat (first | apply Kd.S_alloc | apply Kd.S_drewN | apply Kd.S_drew)); exact HO_5.out⟩, ⟨by repeat ((with_reducible exact HB.out))⟩⟩
     rw [if_neg c20] at H
     have c20b0 : (x6_1 == (a0.size : Int)) = false := beq_eq_false_iff_ne.mpr c20
     have c20b1 : (x6_1 != (a0.size : Int)) = true := bne_iff_ne.mpr c20
     by_cases c28 : x7_2 = (a1.size : Int)
     ·
      rw [if_pos c28] at H
      have c28b0 : (x7_2 == (a1.size : Int)) = true := beq_iff_eq.mpr c28
      have c28b1 : (x7_2 != (a1.size : Int)) = false := bne_eq_false_iff_eq.mpr c28
      clear c28
      by_cases c29 : 0 ≤ x6_1
      rotate_left
      ·
       rw [if_neg c29] at H
       exact absurd H (by simp)
      rw [if_pos c29] at H
      have c29b0 : decide (0 ≤ x6_1) = true := decide_eq_true c29
      clear c29
      by_cases c30 : x6_1 < (x5_2.length : Int)
      rotate_left
      ·
       rw [if_neg c30] at H
       exact absurd H (by simp)
      rw [if_pos c30] at H
      have c30b0 : decide (x6_1 < (x5_2.length : Int)) = true := decide_eq_true c30
      clear c30
      by_cases c31 : 0 ≤ x7_2
      rotate_left
      ·
       rw [if_neg c31] at H
       exact absurd H (by simp)
      rw [if_pos c31] at H
      have c31b0 : decide (0 ≤ x7_2) = true := decide_eq_true c31
      clear c31
      by_cases c32 : x7_2 < ((rd_L4 x5_2 x6_1).length : Int)
      rotate_left
      ·
       rw [if_neg c32] at H
       exact absurd H (by simp)
      rw [if_pos c32] at H
      have c32b0 : decide (x7_2 < ((rd_L4 x5_2 x6_1).length : Int)) = true := decide_eq_true c32
      clear c32
      obtain ⟨y462, hy462⟩ : ∃ y_ : List Int, y_ = ((rd_L4 x5_2 x6_1).set (x7_2 : Int).toNat (wrap64 ((a0.size : Int) - x6_1))) := ⟨_, rfl⟩
      replace H : (spec_l05Table.l1 k2 a0 a1 (x5_2.set (x6_1 : Int).toNat y462) x6_1 (wrap64 (x7_2 - 1))) = some r := by (rw [hy462]; with_reducible exact H)
      have Ny462 := Aside0.mk hy462
      clear hy462
      obtain ⟨y464, hy464⟩ : ∃ y_ : List (List Int), y_ = (x5_2.set (x6_1 : Int).toNat y462) := ⟨_, rfl⟩
      replace H : (spec_l05Table.l1 k2 a0 a1 y464 x6_1 (wrap64 (x7_2 - 1))) = some r := by (rw [hy464]; with_reducible exact H)
      have Ny464 := Aside0.mk hy464
      clear hy464
      have H' := Aside0.mk H
      clear H
      have p461 : 0 ≤ (x6_1 : Int) := of_decide_eq_true (by (with_reducible assumption))
      have q461 : x6_1 < (x5_2.length : Int) := of_decide_eq_true (by (with_reducible assumption))
      obtain ⟨ad461, A461_0, c461_0, e461, hx461_0, hl461_0, hi461_0⟩ := at_L4 (Kd.S_reads' HO_5.out).2.2 x6_1 p461 q461
      obtain rfl : (⟨go14, 0, none⟩ : Addr) = ad461 := (by injection e461)
      obtain ⟨ce461, hce461, hMe461, hcc461⟩ := Kd.S_get HO_5.out [] x6_1 p461 (by exact q461)
      obtain ⟨ve461_0, rfl, ge461_0⟩ := hMe461
      have hv461_0 := hcc461 0 _ rfl
      rw [Nat.add_zero, show ((Kd.slice 3 (Kd.int .i64))).sz = 1 from rfl, Nat.mul_one] at hv461_0
      replace hv461_0 := Option.some.inj (hv461_0.symm.trans hx461_0)
      rw [hv461_0] at ge461_0
      have HL461_0 := Aside0.mk (show Kd.R (Kd.int .i64) 3 _ _ _ _ (rd_L4 x5_2 x6_1) from ge461_0)
      clear hv461_0 ge461_0
      have HX461_0 := Aside0.mk hx461_0
      clear hcc461 hce461
      (simp only [add_plain] at hx461_0)
      have HR461_0 := Aside0.mk hi461_0
      have HC461_0 := Aside0.mk hl461_0
      clear hi461_0 hl461_0
      replace p461 := eq_true p461
      replace q461 := eq_true q461
      have p33 : 0 ≤ (x7_2 : Int) := of_decide_eq_true (by (with_reducible assumption))
      have q33 : (x7_2 : Int) < (((rd_L4 x5_2 x6_1).length : Int) : Int) := of_decide_eq_true (by (with_reducible assumption))
      obtain ⟨go33, co33, eo33, gb33, gl33, cl33, HG33⟩ := Kd.R_form HL461_0.out (by omega)
      (cases eo33)
      have GB33 := Aside0.mk gb33
      have GG33 := Aside0.mk HG33
      clear gb33 gl33 HG33
      obtain ⟨hx33_0, hf33_0⟩ := Kd.R_celln 0 HL461_0.out (x7_2 : Int) p33 q33
      replace p33 := eq_true p33
      replace q33 := eq_true q33
      have hq34 : (x6_1 : Int) < (x5_2.length : Int) := (by have h_ : (x6_1 : Int) < ((x5_2.length : Int) : Int) := of_decide_eq_true (by (with_reducible assumption)); exact h_)
      obtain ⟨oki34, ce34, hcl34, hM34, hcc34, hok34, hbk34⟩ := Kd.S_borrow HO_5.out [] (x6_1 : Int) (of_decide_eq_true (by (with_reducible assumption))) hq34
      obtain ⟨ve34_0, rfl, ge34_0⟩ := hM34
      have hv34 := hcc34 0 _ rfl
      rw [Nat.add_zero, show ((Kd.slice 3 (Kd.int .i64))).sz = 1 from rfl, Nat.mul_one] at hv34
      replace hv34 := Option.some.inj (hv34.symm.trans HX461_0.out)
      subst hv34
      clear hcc34 hcl34
      replace ge34_0 := (show Kd.R (Kd.int .i64) 3 _ _ _ _ (rd_L4 x5_2 x6_1) from ge34_0)
      have HP34 := Kd.R_putg ge34_0 (x7_2 : Int) (wrap64 ((a0.size : Int) - x6_1))
      go_wp2_with (((with_reducible refine gate_store (t := 3) (p := 113) rfl ?_); (try (rw [drewN_self wr]; generalize hq_ : World.drewN wr _ = wr; have n0_ := Aside0.mk (Kd.S_at hq_ HO_5.out); have n1_ := Aside0.mk (below_at hq_ HB.out); have n2_ := Aside0.mk (cell_at hq_ HX461_0.out); clear HX461_0; have HX461_0 := n2_; clear n2_; clear hq_ HO_5 HB; have HO_5 := n0_; have HB := n1_; clear n0_ n1_; (try (have hq34 : (x6_1 : Int) < (x5_2.length : Int) := (by have h_ : (x6_1 : Int) < ((x5_2.length : Int) : Int) := of_decide_eq_true (by first | (with_reducible assumption) | assumption); first | exact h_ | (have e_ := (Kd.S_reads' HO_5.out).1; omega) | simpa only [List.length_set, List.length_set] using h_))); (try (obtain ⟨oki34, ce34, hcl34, hM34, hcc34, hok34, hbk34⟩ := Kd.S_borrow HO_5.out [] (x6_1 : Int) (of_decide_eq_true (by first | (with_reducible assumption) | assumption)) hq34)); (try (obtain ⟨ve34_0, rfl, ge34_0⟩ := hM34)); (try (have hv34 := hcc34 0 _ rfl)); (try (rw [Nat.add_zero, show ((Kd.slice 3 (Kd.int .i64))).sz = 1 from rfl, Nat.mul_one] at hv34)); (try (replace hv34 := Option.some.inj (hv34.symm.trans HX461_0.out))); (try (subst hv34)); (try (clear hcc34 hcl34)); (try (replace ge34_0 := (show Kd.R (Kd.int .i64) 3 _ _ _ _ (rd_L4 x5_2 x6_1) from ge34_0))); (try (obtain ⟨hxs_, hfs_⟩ := Kd.R_celln 0 ge34_0 (x7_2 : Int) (of_eq_true p33) (of_eq_true q33))); (try (have HP34 := Kd.R_putg ge34_0 (x7_2 : Int) (wrap64 ((a0.size : Int) - x6_1)))))); refine store_event (t := 3) (p := 113) (v := ?vo_w35) (w1 := (wr.setCell ⟨go33, (x7_2 : Int).toNat, none⟩ (.int .i64 (wrap64 ((a0.size : Int) - x6_1))))) ?hg ?ho ?hn ?hr ?_; (case ho => rfl); (case hg => rfl); (case hn => rfl); (case hr => (go_simp; done)); intro w35 hw; have hg : wr.grownBy w35 (some go33) := (by rw [hw]; exact HP34.2); have hz_ : Kd.R (Kd.int .i64) 3 w35 w.heap.size oki34 (.slice (some ⟨go33, 0, none⟩) (rd_L4 x5_2 x6_1).length c461_0) y462 := (by rw [hw, Ny462.out]; exact HP34.1); have hp_ : Kd.S (Kd.slice 3 (Kd.int .i64)) 24 w35 w.heap.size (fun _ => True) (.slice (some ⟨go14, 0, none⟩) x5_2.length co14) y464 := (by rw [Ny464.out]; exact hbk34 hg (fun k_ e_ => by injection e_ with e_; subst e_; exact ge34_0.1 _ rfl) (Kd.M_row hz_)); have hm_ := Kd.R_mono hz_ hok34; clear HP34 hbk34; have n0_ := Aside0.mk (hp_); have n1_ := Aside0.mk ((by rw [hw]; exact below_set (HB.out) GB33.out : Below w.heap.size w w35)); have n2_ := Aside0.mk (hm_); have n3_ := Aside0.mk ((Kd.R_reads' hm_).2.1); clear HO_5; clear HB; clear HL461_0; have HO_5 := n0_; have HB := n1_; have HL482 := n2_; have HC463 := n3_; clear n0_ n1_ n2_ n3_; clear hg hw hp_ hz_ hm_ hok34))
      repeat (go_quiet (((with_reducible refine gate_store (t := 3) (p := 113) rfl ?_); (try (rw [drewN_self wr]; generalize hq_ : World.drewN wr _ = wr; have n0_ := Aside0.mk (Kd.S_at hq_ HO_5.out); have n1_ := Aside0.mk (below_at hq_ HB.out); have n2_ := Aside0.mk (cell_at hq_ HX461_0.out); clear HX461_0; have HX461_0 := n2_; clear n2_; clear hq_ HO_5 HB; have HO_5 := n0_; have HB := n1_; clear n0_ n1_; (try (have hq34 : (x6_1 : Int) < (x5_2.length : Int) := (by have h_ : (x6_1 : Int) < ((x5_2.length : Int) : Int) := of_decide_eq_true (by first | (with_reducible assumption) | assumption); first | exact h_ | (have e_ := (Kd.S_reads' HO_5.out).1; omega) | simpa only [List.length_set, List.length_set] using h_))); (try (obtain ⟨oki34, ce34, hcl34, hM34, hcc34, hok34, hbk34⟩ := Kd.S_borrow HO_5.out [] (x6_1 : Int) (of_decide_eq_true (by first | (with_reducible assumption) | assumption)) hq34)); (try (obtain ⟨ve34_0, rfl, ge34_0⟩ := hM34)); (try (have hv34 := hcc34 0 _ rfl)); (try (rw [Nat.add_zero, show ((Kd.slice 3 (Kd.int .i64))).sz = 1 from rfl, Nat.mul_one] at hv34)); (try (replace hv34 := Option.some.inj (hv34.symm.trans HX461_0.out))); (try (subst hv34)); (try (clear hcc34 hcl34)); (try (replace ge34_0 := (show Kd.R (Kd.int .i64) 3 _ _ _ _ (rd_L4 x5_2 x6_1) from ge34_0))); (try (obtain ⟨hxs_, hfs_⟩ := Kd.R_celln 0 ge34_0 (x7_2 : Int) (of_eq_true p33) (of_eq_true q33))); (try (have HP34 := Kd.R_putg ge34_0 (x7_2 : Int) (wrap64 ((a0.size : Int) - x6_1)))))); refine store_event (t := 3) (p := 113) (v := ?vo_w35) (w1 := (wr.setCell ⟨go33, (x7_2 : Int).toNat, none⟩ (.int .i64 (wrap64 ((a0.size : Int) - x6_1))))) ?hg ?ho ?hn ?hr ?_; (case ho => rfl); (case hg => rfl); (case hn => rfl); (case hr => first | (go_simp; done) | (go_simp; rfl)); intro w35 hw; have hg : wr.grownBy w35 (some go33) := (by rw [hw]; exact HP34.2); have hz_ : Kd.R (Kd.int .i64) 3 w35 w.heap.size oki34 (.slice (some ⟨go33, 0, none⟩) (rd_L4 x5_2 x6_1).length c461_0) y462 := (by rw [hw, Ny462.out]; exact HP34.1); have hp_ : Kd.S (Kd.slice 3 (Kd.int .i64)) 24 w35 w.heap.size (fun _ => True) (.slice (some ⟨go14, 0, none⟩) x5_2.length co14) y464 := (by rw [Ny464.out]; exact hbk34 hg (fun k_ e_ => by injection e_ with e_; subst e_; exact ge34_0.1 _ rfl) (Kd.M_row hz_)); have hm_ := Kd.R_mono hz_ hok34; clear HP34 hbk34; have n0_ := Aside0.mk (hp_); have n1_ := Aside0.mk ((by rw [hw]; exact below_set (HB.out) GB33.out : Below w.heap.size w w35)); have n2_ := Aside0.mk (hm_); have n3_ := Aside0.mk ((Kd.R_reads' hm_).2.1); clear HO_5; clear HB; clear HL461_0; have HO_5 := n0_; have HB := n1_; have HL482 := n2_; have HC463 := n3_; clear n0_ n1_ n2_ n3_; clear hg hw hp_ hz_ hm_ hok34)); try go_wp2_with (((with_reducible refine gate_store (t := 3) (p := 113) rfl ?_); (try (rw [drewN_self wr]; generalize hq_ : World.drewN wr _ = wr; have n0_ := Aside0.mk (Kd.S_at hq_ HO_5.out); have n1_ := Aside0.mk (below_at hq_ HB.out); have n2_ := Aside0.mk (cell_at hq_ HX461_0.out); clear HX461_0; have HX461_0 := n2_; clear n2_; clear hq_ HO_5 HB; have HO_5 := n0_; have HB := n1_; clear n0_ n1_; (try (have hq34 : (x6_1 : Int) < (x5_2.length : Int) := (by have h_ : (x6_1 : Int) < ((x5_2.length : Int) : Int) := of_decide_eq_true (by first | (with_reducible assumption) | assumption); first | exact h_ | (have e_ := (Kd.S_reads' HO_5.out).1; omega) | simpa only [List.length_set, List.length_set] using h_))); (try (obtain ⟨oki34, ce34, hcl34, hM34, hcc34, hok34, hbk34⟩ := Kd.S_borrow HO_5.out [] (x6_1 : Int) (of_decide_eq_true (by first | (with_reducible assumption) | assumption)) hq34)); (try (obtain ⟨ve34_0, rfl, ge34_0⟩ := hM34)); (try (have hv34 := hcc34 0 _ rfl)); (try (rw [Nat.add_zero, show ((Kd.slice 3 (Kd.int .i64))).sz = 1 from rfl, Nat.mul_one] at hv34)); (try (replace hv34 := Option.some.inj (hv34.symm.trans HX461_0.out))); (try (subst hv34)); (try (clear hcc34 hcl34)); (try (replace ge34_0 := (show Kd.R (Kd.int .i64) 3 _ _ _ _ (rd_L4 x5_2 x6_1) from ge34_0))); (try (obtain ⟨hxs_, hfs_⟩ := Kd.R_celln 0 ge34_0 (x7_2 : Int) (of_eq_true p33) (of_eq_true q33))); (try (have HP34 := Kd.R_putg ge34_0 (x7_2 : Int) (wrap64 ((a0.size : Int) - x6_1)))))); refine store_event (t := 3) (p := 113) (v := ?vo_w35) (w1 := (wr.setCell ⟨go33, (x7_2 : Int).toNat, none⟩ (.int .i64 (wrap64 ((a0.size : Int) - x6_1))))) ?hg ?ho ?hn ?hr ?_; (case ho => rfl); (case hg => rfl); (case hn => rfl); (case hr => first | (go_simp; done) | (go_simp; rfl)); intro w35 hw; have hg : wr.grownBy w35 (some go33) := (by rw [hw]; exact HP34.2); have hz_ : Kd.R (Kd.int .i64) 3 w35 w.heap.size oki34 (.slice (some ⟨go33, 0, none⟩) (rd_L4 x5_2 x6_1).length c461_0) y462 := (by rw [hw, Ny462.out]; exact HP34.1); have hp_ : Kd.S (Kd.slice 3 (Kd.int .i64)) 24 w35 w.heap.size (fun _ => True) (.slice (some ⟨go14, 0, none⟩) x5_2.length co14) y464 := (by rw [Ny464.out]; exact hbk34 hg (fun k_ e_ => by injection e_ with e_; subst e_; exact ge34_0.1 _ rfl) (Kd.M_row hz_)); have hm_ := Kd.R_mono hz_ hok34; clear HP34 hbk34; have n0_ := Aside0.mk (hp_); have n1_ := Aside0.mk ((by rw [hw]; exact below_set (HB.out) GB33.out : Below w.heap.size w w35)); have n2_ := Aside0.mk (hm_); have n3_ := Aside0.mk ((Kd.R_reads' hm_).2.1); clear HO_5; clear HB; clear HL461_0; have HO_5 := n0_; have HB := n1_; have HL482 := n2_; have HC463 := n3_; clear n0_ n1_ n2_ n3_; clear hg hw hp_ hz_ hm_ hok34)))
      (try simp only [← hl5_2])
      go_roundg k2
      case measure => have := HK1.out; have := HK2.out; omega
      case rel => exact ⟨(y464), (wrap64 (x7_2 - 1)), (by rfl), H', ⟨by have := HK1.out; have := HK2.out; omega⟩, ⟨by (try simp only [hl5_2]); (with_reducible repeat (first | apply Kd.S_alloc | apply Kd.S_drewN | apply Kd.S_drew)); exact HO_5.out⟩, ⟨by repeat ((with_reducible exact HB.out))⟩⟩
     rw [if_neg c28] at H
     have c28b0 : (x7_2 == (a1.size : Int)) = false := beq_eq_false_iff_ne.mpr c28
     have c28b1 : (x7_2 != (a1.size : Int)) = true := bne_iff_ne.mpr c28
     obtain ⟨ji36, hji36⟩ : ∃ j_ : Int, (wrap64 (x6_1 + 1)) = j_ := ⟨_, rfl⟩
     replace H : (if 0 ≤ (ji36) then (if (ji36) < (x5_2.length : Int) then (if 0 ≤ x7_2 then (if x7_2 < ((rd_L4 x5_2 (ji36)).length : Int) then (if 0 ≤ x6_1 then (if x6_1 < (x5_2.length : Int) then (if 0 ≤ (wrap64 (x7_2 + 1)) then (if (wrap64 (x7_2 + 1)) < ((rd_L4 x5_2 x6_1).length : Int) then (if (wrap64 (x7_2 + 1)) < ((rd_L4 x5_2 (ji36)).length : Int) then (if x6_1 < (a0.size : Int) then (if x7_2 < (a1.size : Int) then (if (bt a0 x6_1) = (bt a1 x7_2) then (if x7_2 < ((rd_L4 x5_2 x6_1).length : Int) then (spec_l05Table.l1 k2 a0 a1 (x5_2.set (x6_1 : Int).toNat ((rd_L4 x5_2 x6_1).set (x7_2 : Int).toNat (mn (wrap64 (1 + (mn (mn (rd (rd_L4 x5_2 (ji36)) x7_2) (rd (rd_L4 x5_2 x6_1) (wrap64 (x7_2 + 1)))) (rd (rd_L4 x5_2 (ji36)) (wrap64 (x7_2 + 1)))))) (rd (rd_L4 x5_2 (ji36)) (wrap64 (x7_2 + 1)))))) x6_1 (wrap64 (x7_2 - 1))) else (none)) else (if x7_2 < ((rd_L4 x5_2 x6_1).length : Int) then (spec_l05Table.l1 k2 a0 a1 (x5_2.set (x6_1 : Int).toNat ((rd_L4 x5_2 x6_1).set (x7_2 : Int).toNat (wrap64 (1 + (mn (mn (rd (rd_L4 x5_2 (ji36)) x7_2) (rd (rd_L4 x5_2 x6_1) (wrap64 (x7_2 + 1)))) (rd (rd_L4 x5_2 (ji36)) (wrap64 (x7_2 + 1)))))))) x6_1 (wrap64 (x7_2 - 1))) else (none))) else (none)) else (none)) else (none)) else (none)) else (none)) else (none)) else (none)) else (none)) else (none)) else (none)) else (none)) = some r := by (rw [hji36] at H; exact H)
     have hji36w : (IntKind.i64.wrap (x6_1 + 1)) = ji36 := (i64_w _).trans hji36
     by_cases c37 : 0 ≤ (ji36)
     rotate_left
     ·
      rw [if_neg c37] at H
      exact absurd H (by simp)
     rw [if_pos c37] at H
     have c37b0 : decide (0 ≤ (ji36)) = true := decide_eq_true c37
     clear c37
     by_cases c38 : (ji36) < (x5_2.length : Int)
     rotate_left
     ·
      rw [if_neg c38] at H
      exact absurd H (by simp)
     rw [if_pos c38] at H
     have c38b0 : decide ((ji36) < (x5_2.length : Int)) = true := decide_eq_true c38
     clear c38
     by_cases c39 : 0 ≤ x7_2
     rotate_left
     ·
      rw [if_neg c39] at H
      exact absurd H (by simp)
     rw [if_pos c39] at H
     have c39b0 : decide (0 ≤ x7_2) = true := decide_eq_true c39
     clear c39
     by_cases c40 : x7_2 < ((rd_L4 x5_2 (ji36)).length : Int)
     rotate_left
     ·
      rw [if_neg c40] at H
      exact absurd H (by simp)
     rw [if_pos c40] at H
     have c40b0 : decide (x7_2 < ((rd_L4 x5_2 (ji36)).length : Int)) = true := decide_eq_true c40
     clear c40
     by_cases c41 : 0 ≤ x6_1
     rotate_left
     ·
      rw [if_neg c41] at H
      exact absurd H (by simp)
     rw [if_pos c41] at H
     have c41b0 : decide (0 ≤ x6_1) = true := decide_eq_true c41
     clear c41
     by_cases c42 : x6_1 < (x5_2.length : Int)
     rotate_left
     ·
      rw [if_neg c42] at H
      exact absurd H (by simp)
     rw [if_pos c42] at H
     have c42b0 : decide (x6_1 < (x5_2.length : Int)) = true := decide_eq_true c42
     clear c42
     obtain ⟨ji43, hji43⟩ : ∃ j_ : Int, (wrap64 (x7_2 + 1)) = j_ := ⟨_, rfl⟩
     replace H : (if 0 ≤ (ji43) then (if (ji43) < ((rd_L4 x5_2 x6_1).length : Int) then (if (ji43) < ((rd_L4 x5_2 (ji36)).length : Int) then (if x6_1 < (a0.size : Int) then (if x7_2 < (a1.size : Int) then (if (bt a0 x6_1) = (bt a1 x7_2) then (if x7_2 < ((rd_L4 x5_2 x6_1).length : Int) then (spec_l05Table.l1 k2 a0 a1 (x5_2.set (x6_1 : Int).toNat ((rd_L4 x5_2 x6_1).set (x7_2 : Int).toNat (mn (wrap64 (1 + (mn (mn (rd (rd_L4 x5_2 (ji36)) x7_2) (rd (rd_L4 x5_2 x6_1) (ji43))) (rd (rd_L4 x5_2 (ji36)) (ji43))))) (rd (rd_L4 x5_2 (ji36)) (ji43))))) x6_1 (wrap64 (x7_2 - 1))) else (none)) else (if x7_2 < ((rd_L4 x5_2 x6_1).length : Int) then (spec_l05Table.l1 k2 a0 a1 (x5_2.set (x6_1 : Int).toNat ((rd_L4 x5_2 x6_1).set (x7_2 : Int).toNat (wrap64 (1 + (mn (mn (rd (rd_L4 x5_2 (ji36)) x7_2) (rd (rd_L4 x5_2 x6_1) (ji43))) (rd (rd_L4 x5_2 (ji36)) (ji43))))))) x6_1 (wrap64 (x7_2 - 1))) else (none))) else (none)) else (none)) else (none)) else (none)) else (none)) = some r := by (rw [hji43] at H; exact H)
     have hji43w : (IntKind.i64.wrap (x7_2 + 1)) = ji43 := (i64_w _).trans hji43
     by_cases c44 : 0 ≤ (ji43)
     rotate_left
     ·
      rw [if_neg c44] at H
      exact absurd H (by simp)
     rw [if_pos c44] at H
     have c44b0 : decide (0 ≤ (ji43)) = true := decide_eq_true c44
     clear c44
     by_cases c45 : (ji43) < ((rd_L4 x5_2 x6_1).length : Int)
     rotate_left
     ·
      rw [if_neg c45] at H
      exact absurd H (by simp)
     rw [if_pos c45] at H
     have c45b0 : decide ((ji43) < ((rd_L4 x5_2 x6_1).length : Int)) = true := decide_eq_true c45
     clear c45
     by_cases c46 : (ji43) < ((rd_L4 x5_2 (ji36)).length : Int)
     rotate_left
     ·
      rw [if_neg c46] at H
      exact absurd H (by simp)
     rw [if_pos c46] at H
     have c46b0 : decide ((ji43) < ((rd_L4 x5_2 (ji36)).length : Int)) = true := decide_eq_true c46
     clear c46
     obtain ⟨ji47, hji47⟩ : ∃ j_ : Int, (mn (rd (rd_L4 x5_2 (ji36)) x7_2) (rd (rd_L4 x5_2 x6_1) (ji43))) = j_ := ⟨_, rfl⟩
     replace H : (if x6_1 < (a0.size : Int) then (if x7_2 < (a1.size : Int) then (if (bt a0 x6_1) = (bt a1 x7_2) then (if x7_2 < ((rd_L4 x5_2 x6_1).length : Int) then (spec_l05Table.l1 k2 a0 a1 (x5_2.set (x6_1 : Int).toNat ((rd_L4 x5_2 x6_1).set (x7_2 : Int).toNat (mn (wrap64 (1 + (mn (ji47) (rd (rd_L4 x5_2 (ji36)) (ji43))))) (rd (rd_L4 x5_2 (ji36)) (ji43))))) x6_1 (wrap64 (x7_2 - 1))) else (none)) else (if x7_2 < ((rd_L4 x5_2 x6_1).length : Int) then (spec_l05Table.l1 k2 a0 a1 (x5_2.set (x6_1 : Int).toNat ((rd_L4 x5_2 x6_1).set (x7_2 : Int).toNat (wrap64 (1 + (mn (ji47) (rd (rd_L4 x5_2 (ji36)) (ji43))))))) x6_1 (wrap64 (x7_2 - 1))) else (none))) else (none)) else (none)) = some r := by (rw [hji47] at H; exact H)
     have hji47_ : (if (rd (rd_L4 x5_2 x6_1) (ji43)) < (rd (rd_L4 x5_2 (ji36)) x7_2) then (rd (rd_L4 x5_2 x6_1) (ji43)) else (rd (rd_L4 x5_2 (ji36)) x7_2)) = ji47 := hji47
     obtain ⟨ji48, hji48⟩ : ∃ j_ : Int, (mn (ji47) (rd (rd_L4 x5_2 (ji36)) (ji43))) = j_ := ⟨_, rfl⟩
     replace H : (if x6_1 < (a0.size : Int) then (if x7_2 < (a1.size : Int) then (if (bt a0 x6_1) = (bt a1 x7_2) then (if x7_2 < ((rd_L4 x5_2 x6_1).length : Int) then (spec_l05Table.l1 k2 a0 a1 (x5_2.set (x6_1 : Int).toNat ((rd_L4 x5_2 x6_1).set (x7_2 : Int).toNat (mn (wrap64 (1 + (ji48))) (rd (rd_L4 x5_2 (ji36)) (ji43))))) x6_1 (wrap64 (x7_2 - 1))) else (none)) else (if x7_2 < ((rd_L4 x5_2 x6_1).length : Int) then (spec_l05Table.l1 k2 a0 a1 (x5_2.set (x6_1 : Int).toNat ((rd_L4 x5_2 x6_1).set (x7_2 : Int).toNat (wrap64 (1 + (ji48))))) x6_1 (wrap64 (x7_2 - 1))) else (none))) else (none)) else (none)) = some r := by (rw [hji48] at H; exact H)
     have hji48_ : (if (rd (rd_L4 x5_2 (ji36)) (ji43)) < (ji47) then (rd (rd_L4 x5_2 (ji36)) (ji43)) else (ji47)) = ji48 := hji48
     by_cases c49 : x6_1 < (a0.size : Int)
     rotate_left
     ·
      rw [if_neg c49] at H
      exact absurd H (by simp)
     rw [if_pos c49] at H
     have c49b0 : decide (x6_1 < (a0.size : Int)) = true := decide_eq_true c49
     clear c49
     by_cases c51 : x7_2 < (a1.size : Int)
     rotate_left
     ·
      rw [if_neg c51] at H
      exact absurd H (by simp)
     rw [if_pos c51] at H
     have c51b0 : decide (x7_2 < (a1.size : Int)) = true := decide_eq_true c51
     clear c51
     by_cases c53 : (bt a0 x6_1) = (bt a1 x7_2)
     rotate_left
     ·
      rw [if_neg c53] at H
      have c53b0 : ((bt a0 x6_1) == (bt a1 x7_2)) = false := beq_eq_false_iff_ne.mpr c53
      have c53b1 : ((bt a0 x6_1) != (bt a1 x7_2)) = true := bne_iff_ne.mpr c53
      by_cases c59 : x7_2 < ((rd_L4 x5_2 x6_1).length : Int)
      rotate_left
      ·
       rw [if_neg c59] at H
       exact absurd H (by simp)
      rw [if_pos c59] at H
      have c59b0 : decide (x7_2 < ((rd_L4 x5_2 x6_1).length : Int)) = true := decide_eq_true c59
      clear c59
      obtain ⟨y478, hy478⟩ : ∃ y_ : List Int, y_ = ((rd_L4 x5_2 x6_1).set (x7_2 : Int).toNat (wrap64 (1 + (ji48)))) := ⟨_, rfl⟩
      replace H : (spec_l05Table.l1 k2 a0 a1 (x5_2.set (x6_1 : Int).toNat y478) x6_1 (wrap64 (x7_2 - 1))) = some r := by (rw [hy478]; with_reducible exact H)
      have Ny478 := Aside0.mk hy478
      clear hy478
      obtain ⟨y480, hy480⟩ : ∃ y_ : List (List Int), y_ = (x5_2.set (x6_1 : Int).toNat y478) := ⟨_, rfl⟩
      replace H : (spec_l05Table.l1 k2 a0 a1 y480 x6_1 (wrap64 (x7_2 - 1))) = some r := by (rw [hy480]; with_reducible exact H)
      have Ny480 := Aside0.mk hy480
      clear hy480
      have H' := Aside0.mk H
      clear H
      have p465 : 0 ≤ ((ji36) : Int) := of_decide_eq_true (by (with_reducible assumption))
      have q465 : (ji36) < (x5_2.length : Int) := of_decide_eq_true (by (with_reducible assumption))
      obtain ⟨ad465, A465_0, c465_0, e465, hx465_0, hl465_0, hi465_0⟩ := at_L4 (Kd.S_reads' HO_5.out).2.2 (ji36) p465 q465
      obtain rfl : (⟨go14, 0, none⟩ : Addr) = ad465 := (by injection e465)
      obtain ⟨ce465, hce465, hMe465, hcc465⟩ := Kd.S_get HO_5.out [] (ji36) p465 (by exact q465)
      obtain ⟨ve465_0, rfl, ge465_0⟩ := hMe465
      have hv465_0 := hcc465 0 _ rfl
      rw [Nat.add_zero, show ((Kd.slice 3 (Kd.int .i64))).sz = 1 from rfl, Nat.mul_one] at hv465_0
      replace hv465_0 := Option.some.inj (hv465_0.symm.trans hx465_0)
      rw [hv465_0] at ge465_0
      have HL465_0 := Aside0.mk (show Kd.R (Kd.int .i64) 3 _ _ _ _ (rd_L4 x5_2 (ji36)) from ge465_0)
      clear hv465_0 ge465_0
      have HX465_0 := Aside0.mk hx465_0
      clear hcc465 hce465
      (simp only [add_plain] at hx465_0)
      have HR465_0 := Aside0.mk hi465_0
      have HC465_0 := Aside0.mk hl465_0
      clear hi465_0 hl465_0
      replace p465 := eq_true p465
      replace q465 := eq_true q465
      have p466 : 0 ≤ (x7_2 : Int) := of_decide_eq_true (by (with_reducible assumption))
      have q466 : x7_2 < ((rd_L4 x5_2 (ji36)).length : Int) := of_decide_eq_true (by (with_reducible assumption))
      obtain ⟨ad466, e466, hx466_0⟩ := Kd.at_int (by repeat ((with_reducible exact HR465_0.out))) x7_2 p466 q466
      cases e466
      replace p466 := eq_true p466
      replace q466 := eq_true q466
      have p467 : 0 ≤ (x6_1 : Int) := of_decide_eq_true (by (with_reducible assumption))
      have q467 : x6_1 < (x5_2.length : Int) := of_decide_eq_true (by (with_reducible assumption))
      obtain ⟨ad467, A467_0, c467_0, e467, hx467_0, hl467_0, hi467_0⟩ := at_L4 (Kd.S_reads' HO_5.out).2.2 x6_1 p467 q467
      obtain rfl : (⟨go14, 0, none⟩ : Addr) = ad467 := (by injection e467)
      obtain ⟨ce467, hce467, hMe467, hcc467⟩ := Kd.S_get HO_5.out [] x6_1 p467 (by exact q467)
      obtain ⟨ve467_0, rfl, ge467_0⟩ := hMe467
      have hv467_0 := hcc467 0 _ rfl
      rw [Nat.add_zero, show ((Kd.slice 3 (Kd.int .i64))).sz = 1 from rfl, Nat.mul_one] at hv467_0
      replace hv467_0 := Option.some.inj (hv467_0.symm.trans hx467_0)
      rw [hv467_0] at ge467_0
      have HL467_0 := Aside0.mk (show Kd.R (Kd.int .i64) 3 _ _ _ _ (rd_L4 x5_2 x6_1) from ge467_0)
      clear hv467_0 ge467_0
      have HX467_0 := Aside0.mk hx467_0
      clear hcc467 hce467
      (simp only [add_plain] at hx467_0)
      have HR467_0 := Aside0.mk hi467_0
      have HC467_0 := Aside0.mk hl467_0
      clear hi467_0 hl467_0
      replace p467 := eq_true p467
      replace q467 := eq_true q467
      have p468 : 0 ≤ ((ji43) : Int) := of_decide_eq_true (by (with_reducible assumption))
      have q468 : (ji43) < ((rd_L4 x5_2 x6_1).length : Int) := of_decide_eq_true (by (with_reducible assumption))
      obtain ⟨ad468, e468, hx468_0⟩ := Kd.at_int (by repeat ((with_reducible exact HR467_0.out))) (ji43) p468 q468
      cases e468
      replace p468 := eq_true p468
      replace q468 := eq_true q468
      have p469 : 0 ≤ ((ji36) : Int) := of_decide_eq_true (by (with_reducible assumption))
      have q469 : (ji36) < (x5_2.length : Int) := of_decide_eq_true (by (with_reducible assumption))
      obtain ⟨ad469, A469_0, c469_0, e469, hx469_0, hl469_0, hi469_0⟩ := at_L4 (Kd.S_reads' HO_5.out).2.2 (ji36) p469 q469
      obtain rfl : (⟨go14, 0, none⟩ : Addr) = ad469 := (by injection e469)
      obtain ⟨ce469, hce469, hMe469, hcc469⟩ := Kd.S_get HO_5.out [] (ji36) p469 (by exact q469)
      obtain ⟨ve469_0, rfl, ge469_0⟩ := hMe469
      have hv469_0 := hcc469 0 _ rfl
      rw [Nat.add_zero, show ((Kd.slice 3 (Kd.int .i64))).sz = 1 from rfl, Nat.mul_one] at hv469_0
      replace hv469_0 := Option.some.inj (hv469_0.symm.trans hx469_0)
      rw [hv469_0] at ge469_0
      have HL469_0 := Aside0.mk (show Kd.R (Kd.int .i64) 3 _ _ _ _ (rd_L4 x5_2 (ji36)) from ge469_0)
      clear hv469_0 ge469_0
      have HX469_0 := Aside0.mk hx469_0
      clear hcc469 hce469
      (simp only [add_plain] at hx469_0)
      have HR469_0 := Aside0.mk hi469_0
      have HC469_0 := Aside0.mk hl469_0
      clear hi469_0 hl469_0
      replace p469 := eq_true p469
      replace q469 := eq_true q469
      have ea_ := Option.some.inj (hx465_0.symm.trans hx469_0)
      injection ea_ with ea_ en_ ec_
      subst ea_
      subst ec_
      clear en_
      have p470 : 0 ≤ ((ji43) : Int) := of_decide_eq_true (by (with_reducible assumption))
      have q470 : (ji43) < ((rd_L4 x5_2 (ji36)).length : Int) := of_decide_eq_true (by (with_reducible assumption))
      obtain ⟨ad470, e470, hx470_0⟩ := Kd.at_int (by repeat ((with_reducible exact HR469_0.out))) (ji43) p470 q470
      cases e470
      replace p470 := eq_true p470
      replace q470 := eq_true q470
      have p50 : 0 ≤ (x6_1 : Int) := of_decide_eq_true (by (with_reducible assumption))
      have q50 : x6_1 < (a0.size : Int) := of_decide_eq_true (by (with_reducible assumption))
      have hx50 := bt_at a0 x6_1
      replace p50 := eq_true p50
      replace q50 := eq_true q50
      have p52 : 0 ≤ (x7_2 : Int) := of_decide_eq_true (by (with_reducible assumption))
      have q52 : x7_2 < (a1.size : Int) := of_decide_eq_true (by (with_reducible assumption))
      have hx52 := bt_at a1 x7_2
      replace p52 := eq_true p52
      replace q52 := eq_true q52
      have p477 : 0 ≤ (x6_1 : Int) := of_decide_eq_true (by (with_reducible assumption))
      have q477 : x6_1 < (x5_2.length : Int) := of_decide_eq_true (by (with_reducible assumption))
      obtain ⟨ad477, A477_0, c477_0, e477, hx477_0, hl477_0, hi477_0⟩ := at_L4 (Kd.S_reads' HO_5.out).2.2 x6_1 p477 q477
      obtain rfl : (⟨go14, 0, none⟩ : Addr) = ad477 := (by injection e477)
      obtain ⟨ce477, hce477, hMe477, hcc477⟩ := Kd.S_get HO_5.out [] x6_1 p477 (by exact q477)
      obtain ⟨ve477_0, rfl, ge477_0⟩ := hMe477
      have hv477_0 := hcc477 0 _ rfl
      rw [Nat.add_zero, show ((Kd.slice 3 (Kd.int .i64))).sz = 1 from rfl, Nat.mul_one] at hv477_0
      replace hv477_0 := Option.some.inj (hv477_0.symm.trans hx477_0)
      rw [hv477_0] at ge477_0
      have HL477_0 := Aside0.mk (show Kd.R (Kd.int .i64) 3 _ _ _ _ (rd_L4 x5_2 x6_1) from ge477_0)
      clear hv477_0 ge477_0
      have HX477_0 := Aside0.mk hx477_0
      clear hcc477 hce477
      (simp only [add_plain] at hx477_0)
      have HR477_0 := Aside0.mk hi477_0
      have HC477_0 := Aside0.mk hl477_0
      clear hi477_0 hl477_0
      replace p477 := eq_true p477
      replace q477 := eq_true q477
      have ea_ := Option.some.inj (hx467_0.symm.trans hx477_0)
      injection ea_ with ea_ en_ ec_
      subst ea_
      subst ec_
      clear en_
      have p60 : 0 ≤ (x7_2 : Int) := of_decide_eq_true (by (with_reducible assumption))
      have q60 : (x7_2 : Int) < (((rd_L4 x5_2 x6_1).length : Int) : Int) := of_decide_eq_true (by (with_reducible assumption))
      obtain ⟨go60, co60, eo60, gb60, gl60, cl60, HG60⟩ := Kd.R_form HL477_0.out (by omega)
      (cases eo60)
      have GB60 := Aside0.mk gb60
      have GG60 := Aside0.mk HG60
      clear gb60 gl60 HG60
      (simp only [add_plain] at hx468_0)
      obtain ⟨hx60_0, hf60_0⟩ := Kd.R_celln 0 HL477_0.out (x7_2 : Int) p60 q60
      replace p60 := eq_true p60
      replace q60 := eq_true q60
      have hq61 : (x6_1 : Int) < (x5_2.length : Int) := (by have h_ : (x6_1 : Int) < ((x5_2.length : Int) : Int) := of_decide_eq_true (by (with_reducible assumption)); exact h_)
      obtain ⟨oki61, ce61, hcl61, hM61, hcc61, hok61, hbk61⟩ := Kd.S_borrow HO_5.out [] (x6_1 : Int) (of_decide_eq_true (by (with_reducible assumption))) hq61
      obtain ⟨ve61_0, rfl, ge61_0⟩ := hM61
      have hv61 := hcc61 0 _ rfl
      rw [Nat.add_zero, show ((Kd.slice 3 (Kd.int .i64))).sz = 1 from rfl, Nat.mul_one] at hv61
      replace hv61 := Option.some.inj (hv61.symm.trans HX477_0.out)
      subst hv61
      clear hcc61 hcl61
      replace ge61_0 := (show Kd.R (Kd.int .i64) 3 _ _ _ _ (rd_L4 x5_2 x6_1) from ge61_0)
      have HP61 := Kd.R_putg ge61_0 (x7_2 : Int) (wrap64 (1 + (ji48)))
      go_wp2_with (((with_reducible refine gate_store (t := 3) (p := 83) rfl ?_); (try (rw [drewN_self wr]; generalize hq_ : World.drewN wr _ = wr; have n0_ := Aside0.mk (Kd.S_at hq_ HO_5.out); have n1_ := Aside0.mk (below_at hq_ HB.out); have n2_ := Aside0.mk (cell_at hq_ HX477_0.out); clear HX477_0; have HX477_0 := n2_; clear n2_; clear hq_ HO_5 HB; have HO_5 := n0_; have HB := n1_; clear n0_ n1_; (try (have hq61 : (x6_1 : Int) < (x5_2.length : Int) := (by have h_ : (x6_1 : Int) < ((x5_2.length : Int) : Int) := of_decide_eq_true (by first | (with_reducible assumption) | assumption); first | exact h_ | (have e_ := (Kd.S_reads' HO_5.out).1; omega) | simpa only [List.length_set, List.length_set] using h_))); (try (obtain ⟨oki61, ce61, hcl61, hM61, hcc61, hok61, hbk61⟩ := Kd.S_borrow HO_5.out [] (x6_1 : Int) (of_decide_eq_true (by first | (with_reducible assumption) | assumption)) hq61)); (try (obtain ⟨ve61_0, rfl, ge61_0⟩ := hM61)); (try (have hv61 := hcc61 0 _ rfl)); (try (rw [Nat.add_zero, show ((Kd.slice 3 (Kd.int .i64))).sz = 1 from rfl, Nat.mul_one] at hv61)); (try (replace hv61 := Option.some.inj (hv61.symm.trans HX477_0.out))); (try (subst hv61)); (try (clear hcc61 hcl61)); (try (replace ge61_0 := (show Kd.R (Kd.int .i64) 3 _ _ _ _ (rd_L4 x5_2 x6_1) from ge61_0))); (try (obtain ⟨hxs_, hfs_⟩ := Kd.R_celln 0 ge61_0 (x7_2 : Int) (of_eq_true p60) (of_eq_true q60))); (try (have HP61 := Kd.R_putg ge61_0 (x7_2 : Int) (wrap64 (1 + (ji48))))))); refine store_event (t := 3) (p := 83) (v := ?vo_w62) (w1 := (wr.setCell ⟨go60, (x7_2 : Int).toNat, none⟩ (.int .i64 (wrap64 (1 + (ji48)))))) ?hg ?ho ?hn ?hr ?_; (case ho => rfl); (case hg => rfl); (case hn => rfl); (case hr => first | (go_simp; done) | (go_simp; rfl)); intro w62 hw; have hg : wr.grownBy w62 (some go60) := (by rw [hw]; exact HP61.2); have hz_ : Kd.R (Kd.int .i64) 3 w62 w.heap.size oki61 (.slice (some ⟨go60, 0, none⟩) (rd_L4 x5_2 x6_1).length c467_0) y478 := (by rw [hw, Ny478.out]; exact HP61.1); have hp_ : Kd.S (Kd.slice 3 (Kd.int .i64)) 24 w62 w.heap.size (fun _ => True) (.slice (some ⟨go14, 0, none⟩) x5_2.length co14) y480 := (by rw [Ny480.out]; exact hbk61 hg (fun k_ e_ => by injection e_ with e_; subst e_; exact ge61_0.1 _ rfl) (Kd.M_row hz_)); have hm_ := Kd.R_mono hz_ hok61; clear HP61 hbk61; have n0_ := Aside0.mk (hp_); have n1_ := Aside0.mk ((by rw [hw]; exact below_set (HB.out) GB60.out : Below w.heap.size w w62)); have n2_ := Aside0.mk (hm_); have n3_ := Aside0.mk ((Kd.R_reads' hm_).2.1); clear HO_5; clear HB; clear HL465_0; clear HL467_0; clear HL469_0; clear HL477_0; have HO_5 := n0_; have HB := n1_; have HL484 := n2_; have HC479 := n3_; clear n0_ n1_ n2_ n3_; clear hg hw hp_ hz_ hm_ hok61))
      repeat (go_quiet (((with_reducible refine gate_store (t := 3) (p := 83) rfl ?_); (try (rw [drewN_self wr]; generalize hq_ : World.drewN wr _ = wr; have n0_ := Aside0.mk (Kd.S_at hq_ HO_5.out); have n1_ := Aside0.mk (below_at hq_ HB.out); have n2_ := Aside0.mk (cell_at hq_ HX477_0.out); clear HX477_0; have HX477_0 := n2_; clear n2_; clear hq_ HO_5 HB; have HO_5 := n0_; have HB := n1_; clear n0_ n1_; (try (have hq61 : (x6_1 : Int) < (x5_2.length : Int) := (by have h_ : (x6_1 : Int) < ((x5_2.length : Int) : Int) := of_decide_eq_true (by first | (with_reducible assumption) | assumption); first | exact h_ | (have e_ := (Kd.S_reads' HO_5.out).1; omega) | simpa only [List.length_set, List.length_set] using h_))); (try (obtain ⟨oki61, ce61, hcl61, hM61, hcc61, hok61, hbk61⟩ := Kd.S_borrow HO_5.out [] (x6_1 : Int) (of_decide_eq_true (by first | (with_reducible assumption) | assumption)) hq61)); (try (obtain ⟨ve61_0, rfl, ge61_0⟩ := hM61)); (try (have hv61 := hcc61 0 _ rfl)); (try (rw [Nat.add_zero, show ((Kd.slice 3 (Kd.int .i64))).sz = 1 from rfl, Nat.mul_one] at hv61)); (try (replace hv61 := Option.some.inj (hv61.symm.trans HX477_0.out))); (try (subst hv61)); (try (clear hcc61 hcl61)); (try (replace ge61_0 := (show Kd.R (Kd.int .i64) 3 _ _ _ _ (rd_L4 x5_2 x6_1) from ge61_0))); (try (obtain ⟨hxs_, hfs_⟩ := Kd.R_celln 0 ge61_0 (x7_2 : Int) (of_eq_true p60) (of_eq_true q60))); (try (have HP61 := Kd.R_putg ge61_0 (x7_2 : Int) (wrap64 (1 + (ji48))))))); refine store_event (t := 3) (p := 83) (v := ?vo_w62) (w1 := (wr.setCell ⟨go60, (x7_2 : Int).toNat, none⟩ (.int .i64 (wrap64 (1 + (ji48)))))) ?hg ?ho ?hn ?hr ?_; (case ho => rfl); (case hg => rfl); (case hn => rfl); (case hr => first | (go_simp; done) | (go_simp; rfl)); intro w62 hw; have hg : wr.grownBy w62 (some go60) := (by rw [hw]; exact HP61.2); have hz_ : Kd.R (Kd.int .i64) 3 w62 w.heap.size oki61 (.slice (some ⟨go60, 0, none⟩) (rd_L4 x5_2 x6_1).length c467_0) y478 := (by rw [hw, Ny478.out]; exact HP61.1); have hp_ : Kd.S (Kd.slice 3 (Kd.int .i64)) 24 w62 w.heap.size (fun _ => True) (.slice (some ⟨go14, 0, none⟩) x5_2.length co14) y480 := (by rw [Ny480.out]; exact hbk61 hg (fun k_ e_ => by injection e_ with e_; subst e_; exact ge61_0.1 _ rfl) (Kd.M_row hz_)); have hm_ := Kd.R_mono hz_ hok61; clear HP61 hbk61; have n0_ := Aside0.mk (hp_); have n1_ := Aside0.mk ((by rw [hw]; exact below_set (HB.out) GB60.out : Below w.heap.size w w62)); have n2_ := Aside0.mk (hm_); have n3_ := Aside0.mk ((Kd.R_reads' hm_).2.1); clear HO_5; clear HB; clear HL465_0; clear HL467_0; clear HL469_0; clear HL477_0; have HO_5 := n0_; have HB := n1_; have HL484 := n2_; have HC479 := n3_; clear n0_ n1_ n2_ n3_; clear hg hw hp_ hz_ hm_ hok61)); try go_wp2_with (((with_reducible refine gate_store (t := 3) (p := 83) rfl ?_); (try (rw [drewN_self wr]; generalize hq_ : World.drewN wr _ = wr; have n0_ := Aside0.mk (Kd.S_at hq_ HO_5.out); have n1_ := Aside0.mk (below_at hq_ HB.out); have n2_ := Aside0.mk (cell_at hq_ HX477_0.out); clear HX477_0; have HX477_0 := n2_; clear n2_; clear hq_ HO_5 HB; have HO_5 := n0_; have HB := n1_; clear n0_ n1_; (try (have hq61 : (x6_1 : Int) < (x5_2.length : Int) := (by have h_ : (x6_1 : Int) < ((x5_2.length : Int) : Int) := of_decide_eq_true (by (with_reducible assumption)); exact h_))); (try (obtain ⟨oki61, ce61, hcl61, hM61, hcc61, hok61, hbk61⟩ := Kd.S_borrow HO_5.out [] (x6_1 : Int) (of_decide_eq_true (by (with_reducible assumption))) hq61)); (try (obtain ⟨ve61_0, rfl, ge61_0⟩ := hM61)); (try (have hv61 := hcc61 0 _ rfl)); (try (rw [Nat.add_zero, show ((Kd.slice 3 (Kd.int .i64))).sz = 1 from rfl, Nat.mul_one] at hv61)); (try (replace hv61 := Option.some.inj (hv61.symm.trans HX477_0.out))); (try (subst hv61)); (try (clear hcc61 hcl61)); (try (replace ge61_0 := (show Kd.R (Kd.int .i64) 3 _ _ _ _ (rd_L4 x5_2 x6_1) from ge61_0))); (try (obtain ⟨hxs_, hfs_⟩ := Kd.R_celln 0 ge61_0 (x7_2 : Int) (of_eq_true p60) (of_eq_true q60))); (try (have HP61 := Kd.R_putg ge61_0 (x7_2 : Int) (wrap64 (1 + (ji48))))))); refine store_event (t := 3) (p := 83) (v := ?vo_w62) (w1 := (wr.setCell ⟨go60, (x7_2 : Int).toNat, none⟩ (.int .i64 (wrap64 (1 + (ji48)))))) ?hg ?ho ?hn ?hr ?_; (case ho => rfl); (case hg => rfl); (case hn => rfl); (case hr => (go_simp; done)); intro w62 hw; have hg : wr.grownBy w62 (some go60) := (by rw [hw]; exact HP61.2); have hz_ : Kd.R (Kd.int .i64) 3 w62 w.heap.size oki61 (.slice (some ⟨go60, 0, none⟩) (rd_L4 x5_2 x6_1).length c467_0) y478 := (by rw [hw, Ny478.out]; exact HP61.1); have hp_ : Kd.S (Kd.slice 3 (Kd.int .i64)) 24 w62 w.heap.size (fun _ => True) (.slice (some ⟨go14, 0, none⟩) x5_2.length co14) y480 := (by rw [Ny480.out]; exact hbk61 hg (fun k_ e_ => by injection e_ with e_; subst e_; exact ge61_0.1 _ rfl) (Kd.M_row hz_)); have hm_ := Kd.R_mono hz_ hok61; clear HP61 hbk61; have n0_ := Aside0.mk (hp_); have n1_ := Aside0.mk ((by rw [hw]; exact below_set (HB.out) GB60.out : Below w.heap.size w w62)); have n2_ := Aside0.mk (hm_); have n3_ := Aside0.mk ((Kd.R_reads' hm_).2.1); clear HO_5; clear HB; clear HL465_0; clear HL467_0; clear HL469_0; clear HL477_0; have HO_5 := n0_; have HB := n1_; have HL484 := n2_; have HC479 := n3_; clear n0_ n1_ n2_ n3_; clear hg hw hp_ hz_ hm_ hok61)))
      (try simp only [← hl5_2])
      go_roundg k2
      case measure => have := HK1.out; have := HK2.out; omega
      case rel => exact ⟨(y480), (wrap64 (x7_2 - 1)), (by rfl), H', ⟨by have := HK1.out; have := HK2.out; omega⟩, ⟨by (try simp only [hl5_2]); (with_reducible repeat (first | apply Kd.S_alloc | apply Kd.S_drewN | apply Kd.S_drew)); exact HO_5.out⟩, ⟨by repeat ((with_reducible exact HB.out))⟩⟩
     rw [if_pos c53] at H
     have c53b0 : ((bt a0 x6_1) == (bt a1 x7_2)) = true := beq_iff_eq.mpr c53
     have c53b1 : ((bt a0 x6_1) != (bt a1 x7_2)) = false := bne_eq_false_iff_eq.mpr c53
     clear c53
     obtain ⟨ji54, hji54⟩ : ∃ j_ : Int, (mn (wrap64 (1 + (ji48))) (rd (rd_L4 x5_2 (ji36)) (ji43))) = j_ := ⟨_, rfl⟩
     replace H : (if x7_2 < ((rd_L4 x5_2 x6_1).length : Int) then (spec_l05Table.l1 k2 a0 a1 (x5_2.set (x6_1 : Int).toNat ((rd_L4 x5_2 x6_1).set (x7_2 : Int).toNat (ji54))) x6_1 (wrap64 (x7_2 - 1))) else (none)) = some r := by (rw [hji54] at H; exact H)
     have hji54_ : (if (rd (rd_L4 x5_2 (ji36)) (ji43)) < (wrap64 (1 + (ji48))) then (rd (rd_L4 x5_2 (ji36)) (ji43)) else (wrap64 (1 + (ji48)))) = ji54 := hji54
     by_cases c55 : x7_2 < ((rd_L4 x5_2 x6_1).length : Int)
     rotate_left
     ·
      rw [if_neg c55] at H
      exact absurd H (by simp)
     rw [if_pos c55] at H
     have c55b0 : decide (x7_2 < ((rd_L4 x5_2 x6_1).length : Int)) = true := decide_eq_true c55
     clear c55
     obtain ⟨y474, hy474⟩ : ∃ y_ : List Int, y_ = ((rd_L4 x5_2 x6_1).set (x7_2 : Int).toNat (ji54)) := ⟨_, rfl⟩
     replace H : (spec_l05Table.l1 k2 a0 a1 (x5_2.set (x6_1 : Int).toNat y474) x6_1 (wrap64 (x7_2 - 1))) = some r := by (rw [hy474]; with_reducible exact H)
     have Ny474 := Aside0.mk hy474
     clear hy474
     obtain ⟨y476, hy476⟩ : ∃ y_ : List (List Int), y_ = (x5_2.set (x6_1 : Int).toNat y474) := ⟨_, rfl⟩
     replace H : (spec_l05Table.l1 k2 a0 a1 y476 x6_1 (wrap64 (x7_2 - 1))) = some r := by (rw [hy476]; with_reducible exact H)
     have Ny476 := Aside0.mk hy476
     clear hy476
     have H' := Aside0.mk H
     clear H
     have p465 : 0 ≤ ((ji36) : Int) := of_decide_eq_true (by (with_reducible assumption))
     have q465 : (ji36) < (x5_2.length : Int) := of_decide_eq_true (by (with_reducible assumption))
     obtain ⟨ad465, A465_0, c465_0, e465, hx465_0, hl465_0, hi465_0⟩ := at_L4 (Kd.S_reads' HO_5.out).2.2 (ji36) p465 q465
     obtain rfl : (⟨go14, 0, none⟩ : Addr) = ad465 := (by injection e465)
     obtain ⟨ce465, hce465, hMe465, hcc465⟩ := Kd.S_get HO_5.out [] (ji36) p465 (by exact q465)
     obtain ⟨ve465_0, rfl, ge465_0⟩ := hMe465
     have hv465_0 := hcc465 0 _ rfl
     rw [Nat.add_zero, show ((Kd.slice 3 (Kd.int .i64))).sz = 1 from rfl, Nat.mul_one] at hv465_0
     replace hv465_0 := Option.some.inj (hv465_0.symm.trans hx465_0)
     rw [hv465_0] at ge465_0
     have HL465_0 := Aside0.mk (show Kd.R (Kd.int .i64) 3 _ _ _ _ (rd_L4 x5_2 (ji36)) from ge465_0)
     clear hv465_0 ge465_0
     have HX465_0 := Aside0.mk hx465_0
     clear hcc465 hce465
     (simp only [add_plain] at hx465_0)
     have HR465_0 := Aside0.mk hi465_0
     have HC465_0 := Aside0.mk hl465_0
     clear hi465_0 hl465_0
     replace p465 := eq_true p465
     replace q465 := eq_true q465
     have p466 : 0 ≤ (x7_2 : Int) := of_decide_eq_true (by (with_reducible assumption))
     have q466 : x7_2 < ((rd_L4 x5_2 (ji36)).length : Int) := of_decide_eq_true (by (with_reducible assumption))
     obtain ⟨ad466, e466, hx466_0⟩ := Kd.at_int (by repeat ((with_reducible exact HR465_0.out))) x7_2 p466 q466
     cases e466
     replace p466 := eq_true p466
     replace q466 := eq_true q466
     have p467 : 0 ≤ (x6_1 : Int) := of_decide_eq_true (by (with_reducible assumption))
     have q467 : x6_1 < (x5_2.length : Int) := of_decide_eq_true (by (with_reducible assumption))
     obtain ⟨ad467, A467_0, c467_0, e467, hx467_0, hl467_0, hi467_0⟩ := at_L4 (Kd.S_reads' HO_5.out).2.2 x6_1 p467 q467
     obtain rfl : (⟨go14, 0, none⟩ : Addr) = ad467 := (by injection e467)
     obtain ⟨ce467, hce467, hMe467, hcc467⟩ := Kd.S_get HO_5.out [] x6_1 p467 (by exact q467)
     obtain ⟨ve467_0, rfl, ge467_0⟩ := hMe467
     have hv467_0 := hcc467 0 _ rfl
     rw [Nat.add_zero, show ((Kd.slice 3 (Kd.int .i64))).sz = 1 from rfl, Nat.mul_one] at hv467_0
     replace hv467_0 := Option.some.inj (hv467_0.symm.trans hx467_0)
     rw [hv467_0] at ge467_0
     have HL467_0 := Aside0.mk (show Kd.R (Kd.int .i64) 3 _ _ _ _ (rd_L4 x5_2 x6_1) from ge467_0)
     clear hv467_0 ge467_0
     have HX467_0 := Aside0.mk hx467_0
     clear hcc467 hce467
     (simp only [add_plain] at hx467_0)
     have HR467_0 := Aside0.mk hi467_0
     have HC467_0 := Aside0.mk hl467_0
     clear hi467_0 hl467_0
     replace p467 := eq_true p467
     replace q467 := eq_true q467
     have p468 : 0 ≤ ((ji43) : Int) := of_decide_eq_true (by (with_reducible assumption))
     have q468 : (ji43) < ((rd_L4 x5_2 x6_1).length : Int) := of_decide_eq_true (by (with_reducible assumption))
     obtain ⟨ad468, e468, hx468_0⟩ := Kd.at_int (by repeat ((with_reducible exact HR467_0.out))) (ji43) p468 q468
     cases e468
     replace p468 := eq_true p468
     replace q468 := eq_true q468
     have p469 : 0 ≤ ((ji36) : Int) := of_decide_eq_true (by (with_reducible assumption))
     have q469 : (ji36) < (x5_2.length : Int) := of_decide_eq_true (by (with_reducible assumption))
     obtain ⟨ad469, A469_0, c469_0, e469, hx469_0, hl469_0, hi469_0⟩ := at_L4 (Kd.S_reads' HO_5.out).2.2 (ji36) p469 q469
     obtain rfl : (⟨go14, 0, none⟩ : Addr) = ad469 := (by injection e469)
     obtain ⟨ce469, hce469, hMe469, hcc469⟩ := Kd.S_get HO_5.out [] (ji36) p469 (by exact q469)
     obtain ⟨ve469_0, rfl, ge469_0⟩ := hMe469
     have hv469_0 := hcc469 0 _ rfl
     rw [Nat.add_zero, show ((Kd.slice 3 (Kd.int .i64))).sz = 1 from rfl, Nat.mul_one] at hv469_0
     replace hv469_0 := Option.some.inj (hv469_0.symm.trans hx469_0)
     rw [hv469_0] at ge469_0
     have HL469_0 := Aside0.mk (show Kd.R (Kd.int .i64) 3 _ _ _ _ (rd_L4 x5_2 (ji36)) from ge469_0)
     clear hv469_0 ge469_0
     have HX469_0 := Aside0.mk hx469_0
     clear hcc469 hce469
     (simp only [add_plain] at hx469_0)
     have HR469_0 := Aside0.mk hi469_0
     have HC469_0 := Aside0.mk hl469_0
     clear hi469_0 hl469_0
     replace p469 := eq_true p469
     replace q469 := eq_true q469
     have ea_ := Option.some.inj (hx465_0.symm.trans hx469_0)
     injection ea_ with ea_ en_ ec_
     subst ea_
     subst ec_
     clear en_
     have p470 : 0 ≤ ((ji43) : Int) := of_decide_eq_true (by (with_reducible assumption))
     have q470 : (ji43) < ((rd_L4 x5_2 (ji36)).length : Int) := of_decide_eq_true (by (with_reducible assumption))
     obtain ⟨ad470, e470, hx470_0⟩ := Kd.at_int (by repeat ((with_reducible exact HR469_0.out))) (ji43) p470 q470
     cases e470
     replace p470 := eq_true p470
     replace q470 := eq_true q470
     have p50 : 0 ≤ (x6_1 : Int) := of_decide_eq_true (by (with_reducible assumption))
     have q50 : x6_1 < (a0.size : Int) := of_decide_eq_true (by (with_reducible assumption))
     have hx50 := bt_at a0 x6_1
     replace p50 := eq_true p50
     replace q50 := eq_true q50
     have p52 : 0 ≤ (x7_2 : Int) := of_decide_eq_true (by (with_reducible assumption))
     have q52 : x7_2 < (a1.size : Int) := of_decide_eq_true (by (with_reducible assumption))
     have hx52 := bt_at a1 x7_2
     replace p52 := eq_true p52
     replace q52 := eq_true q52
     have p471 : 0 ≤ ((ji36) : Int) := of_decide_eq_true (by (with_reducible assumption))
     have q471 : (ji36) < (x5_2.length : Int) := of_decide_eq_true (by (with_reducible assumption))
     obtain ⟨ad471, A471_0, c471_0, e471, hx471_0, hl471_0, hi471_0⟩ := at_L4 (Kd.S_reads' HO_5.out).2.2 (ji36) p471 q471
     obtain rfl : (⟨go14, 0, none⟩ : Addr) = ad471 := (by injection e471)
     obtain ⟨ce471, hce471, hMe471, hcc471⟩ := Kd.S_get HO_5.out [] (ji36) p471 (by exact q471)
     obtain ⟨ve471_0, rfl, ge471_0⟩ := hMe471
     have hv471_0 := hcc471 0 _ rfl
     rw [Nat.add_zero, show ((Kd.slice 3 (Kd.int .i64))).sz = 1 from rfl, Nat.mul_one] at hv471_0
     replace hv471_0 := Option.some.inj (hv471_0.symm.trans hx471_0)
     rw [hv471_0] at ge471_0
     have HL471_0 := Aside0.mk (show Kd.R (Kd.int .i64) 3 _ _ _ _ (rd_L4 x5_2 (ji36)) from ge471_0)
     clear hv471_0 ge471_0
     have HX471_0 := Aside0.mk hx471_0
     clear hcc471 hce471
     (simp only [add_plain] at hx471_0)
     have HR471_0 := Aside0.mk hi471_0
     have HC471_0 := Aside0.mk hl471_0
     clear hi471_0 hl471_0
     replace p471 := eq_true p471
     replace q471 := eq_true q471
     have ea_ := Option.some.inj (hx465_0.symm.trans hx471_0)
     injection ea_ with ea_ en_ ec_
     subst ea_
     subst ec_
     clear en_
     have p472 : 0 ≤ ((ji43) : Int) := of_decide_eq_true (by (with_reducible assumption))
     have q472 : (ji43) < ((rd_L4 x5_2 (ji36)).length : Int) := of_decide_eq_true (by (with_reducible assumption))
     obtain ⟨ad472, e472, hx472_0⟩ := Kd.at_int (by repeat ((with_reducible exact HR471_0.out))) (ji43) p472 q472
     cases e472
     replace p472 := eq_true p472
     replace q472 := eq_true q472
     have p473 : 0 ≤ (x6_1 : Int) := of_decide_eq_true (by (with_reducible assumption))
     have q473 : x6_1 < (x5_2.length : Int) := of_decide_eq_true (by (with_reducible assumption))
     obtain ⟨ad473, A473_0, c473_0, e473, hx473_0, hl473_0, hi473_0⟩ := at_L4 (Kd.S_reads' HO_5.out).2.2 x6_1 p473 q473
     obtain rfl : (⟨go14, 0, none⟩ : Addr) = ad473 := (by injection e473)
     obtain ⟨ce473, hce473, hMe473, hcc473⟩ := Kd.S_get HO_5.out [] x6_1 p473 (by exact q473)
     obtain ⟨ve473_0, rfl, ge473_0⟩ := hMe473
     have hv473_0 := hcc473 0 _ rfl
     rw [Nat.add_zero, show ((Kd.slice 3 (Kd.int .i64))).sz = 1 from rfl, Nat.mul_one] at hv473_0
     replace hv473_0 := Option.some.inj (hv473_0.symm.trans hx473_0)
     rw [hv473_0] at ge473_0
     have HL473_0 := Aside0.mk (show Kd.R (Kd.int .i64) 3 _ _ _ _ (rd_L4 x5_2 x6_1) from ge473_0)
     clear hv473_0 ge473_0
     have HX473_0 := Aside0.mk hx473_0
     clear hcc473 hce473
     (simp only [add_plain] at hx473_0)
     have HR473_0 := Aside0.mk hi473_0
     have HC473_0 := Aside0.mk hl473_0
     clear hi473_0 hl473_0
     replace p473 := eq_true p473
     replace q473 := eq_true q473
     have ea_ := Option.some.inj (hx467_0.symm.trans hx473_0)
     injection ea_ with ea_ en_ ec_
     subst ea_
     subst ec_
     clear en_
     have p56 : 0 ≤ (x7_2 : Int) := of_decide_eq_true (by (with_reducible assumption))
     have q56 : (x7_2 : Int) < (((rd_L4 x5_2 x6_1).length : Int) : Int) := of_decide_eq_true (by (with_reducible assumption))
     obtain ⟨go56, co56, eo56, gb56, gl56, cl56, HG56⟩ := Kd.R_form HL473_0.out (by omega)
     (cases eo56)
     have GB56 := Aside0.mk gb56
     have GG56 := Aside0.mk HG56
     clear gb56 gl56 HG56
     (simp only [add_plain] at hx468_0)
     obtain ⟨hx56_0, hf56_0⟩ := Kd.R_celln 0 HL473_0.out (x7_2 : Int) p56 q56
     replace p56 := eq_true p56
     replace q56 := eq_true q56
     have hq57 : (x6_1 : Int) < (x5_2.length : Int) := (by have h_ : (x6_1 : Int) < ((x5_2.length : Int) : Int) := of_decide_eq_true (by (with_reducible assumption)); exact h_)
     obtain ⟨oki57, ce57, hcl57, hM57, hcc57, hok57, hbk57⟩ := Kd.S_borrow HO_5.out [] (x6_1 : Int) (of_decide_eq_true (by (with_reducible assumption))) hq57
     obtain ⟨ve57_0, rfl, ge57_0⟩ := hM57
     have hv57 := hcc57 0 _ rfl
     rw [Nat.add_zero, show ((Kd.slice 3 (Kd.int .i64))).sz = 1 from rfl, Nat.mul_one] at hv57
     replace hv57 := Option.some.inj (hv57.symm.trans HX473_0.out)
     subst hv57
     clear hcc57 hcl57
     replace ge57_0 := (show Kd.R (Kd.int .i64) 3 _ _ _ _ (rd_L4 x5_2 x6_1) from ge57_0)
     have HP57 := Kd.R_putg ge57_0 (x7_2 : Int) ji54
     go_wp2_with (((with_reducible refine gate_store (t := 3) (p := 83) rfl ?_); (try (rw [drewN_self wr]; generalize hq_ : World.drewN wr _ = wr; have n0_ := Aside0.mk (Kd.S_at hq_ HO_5.out); have n1_ := Aside0.mk (below_at hq_ HB.out); have n2_ := Aside0.mk (cell_at hq_ HX473_0.out); clear HX473_0; have HX473_0 := n2_; clear n2_; clear hq_ HO_5 HB; have HO_5 := n0_; have HB := n1_; clear n0_ n1_; (try (have hq57 : (x6_1 : Int) < (x5_2.length : Int) := (by have h_ : (x6_1 : Int) < ((x5_2.length : Int) : Int) := of_decide_eq_true (by first | (with_reducible assumption) | assumption); first | exact h_ | (have e_ := (Kd.S_reads' HO_5.out).1; omega) | simpa only [List.length_set, List.length_set] using h_))); (try (obtain ⟨oki57, ce57, hcl57, hM57, hcc57, hok57, hbk57⟩ := Kd.S_borrow HO_5.out [] (x6_1 : Int) (of_decide_eq_true (by first | (with_reducible assumption) | assumption)) hq57)); (try (obtain ⟨ve57_0, rfl, ge57_0⟩ := hM57)); (try (have hv57 := hcc57 0 _ rfl)); (try (rw [Nat.add_zero, show ((Kd.slice 3 (Kd.int .i64))).sz = 1 from rfl, Nat.mul_one] at hv57)); (try (replace hv57 := Option.some.inj (hv57.symm.trans HX473_0.out))); (try (subst hv57)); (try (clear hcc57 hcl57)); (try (replace ge57_0 := (show Kd.R (Kd.int .i64) 3 _ _ _ _ (rd_L4 x5_2 x6_1) from ge57_0))); (try (obtain ⟨hxs_, hfs_⟩ := Kd.R_celln 0 ge57_0 (x7_2 : Int) (of_eq_true p56) (of_eq_true q56))); (try (have HP57 := Kd.R_putg ge57_0 (x7_2 : Int) ji54)))); refine store_event (t := 3) (p := 83) (v := ?vo_w58) (w1 := (wr.setCell ⟨go56, (x7_2 : Int).toNat, none⟩ (.int .i64 ji54))) ?hg ?ho ?hn ?hr ?_; (case ho => rfl); (case hg => rfl); (case hn => rfl); (case hr => first | (go_simp; done) | (go_simp; rfl)); intro w58 hw; have hg : wr.grownBy w58 (some go56) := (by rw [hw]; exact HP57.2); have hz_ : Kd.R (Kd.int .i64) 3 w58 w.heap.size oki57 (.slice (some ⟨go56, 0, none⟩) (rd_L4 x5_2 x6_1).length c467_0) y474 := (by rw [hw, Ny474.out]; exact HP57.1); have hp_ : Kd.S (Kd.slice 3 (Kd.int .i64)) 24 w58 w.heap.size (fun _ => True) (.slice (some ⟨go14, 0, none⟩) x5_2.length co14) y476 := (by rw [Ny476.out]; exact hbk57 hg (fun k_ e_ => by injection e_ with e_; subst e_; exact ge57_0.1 _ rfl) (Kd.M_row hz_)); have hm_ := Kd.R_mono hz_ hok57; clear HP57 hbk57; have n0_ := Aside0.mk (hp_); have n1_ := Aside0.mk ((by rw [hw]; exact below_set (HB.out) GB56.out : Below w.heap.size w w58)); have n2_ := Aside0.mk (hm_); have n3_ := Aside0.mk ((Kd.R_reads' hm_).2.1); clear HO_5; clear HB; clear HL465_0; clear HL467_0; clear HL469_0; clear HL471_0; clear HL473_0; have HO_5 := n0_; have HB := n1_; have HL483 := n2_; have HC475 := n3_; clear n0_ n1_ n2_ n3_; clear hg hw hp_ hz_ hm_ hok57))
     repeat (go_quiet (((with_reducible refine gate_store (t := 3) (p := 83) rfl ?_); (try (rw [drewN_self wr]; generalize hq_ : World.drewN wr _ = wr; have n0_ := Aside0.mk (Kd.S_at hq_ HO_5.out); have n1_ := Aside0.mk (below_at hq_ HB.out); have n2_ := Aside0.mk (cell_at hq_ HX473_0.out); clear HX473_0; have HX473_0 := n2_; clear n2_; clear hq_ HO_5 HB; have HO_5 := n0_; have HB := n1_; clear n0_ n1_; (try (have hq57 : (x6_1 : Int) < (x5_2.length : Int) := (by have h_ : (x6_1 : Int) < ((x5_2.length : Int) : Int) := of_decide_eq_true (by first | (with_reducible assumption) | assumption); first | exact h_ | (have e_ := (Kd.S_reads' HO_5.out).1; omega) | simpa only [List.length_set, List.length_set] using h_))); (try (obtain ⟨oki57, ce57, hcl57, hM57, hcc57, hok57, hbk57⟩ := Kd.S_borrow HO_5.out [] (x6_1 : Int) (of_decide_eq_true (by first | (with_reducible assumption) | assumption)) hq57)); (try (obtain ⟨ve57_0, rfl, ge57_0⟩ := hM57)); (try (have hv57 := hcc57 0 _ rfl)); (try (rw [Nat.add_zero, show ((Kd.slice 3 (Kd.int .i64))).sz = 1 from rfl, Nat.mul_one] at hv57)); (try (replace hv57 := Option.some.inj (hv57.symm.trans HX473_0.out))); (try (subst hv57)); (try (clear hcc57 hcl57)); (try (replace ge57_0 := (show Kd.R (Kd.int .i64) 3 _ _ _ _ (rd_L4 x5_2 x6_1) from ge57_0))); (try (obtain ⟨hxs_, hfs_⟩ := Kd.R_celln 0 ge57_0 (x7_2 : Int) (of_eq_true p56) (of_eq_true q56))); (try (have HP57 := Kd.R_putg ge57_0 (x7_2 : Int) ji54)))); refine store_event (t := 3) (p := 83) (v := ?vo_w58) (w1 := (wr.setCell ⟨go56, (x7_2 : Int).toNat, none⟩ (.int .i64 ji54))) ?hg ?ho ?hn ?hr ?_; (case ho => rfl); (case hg => rfl); (case hn => rfl); (case hr => first | (go_simp; done) | (go_simp; rfl)); intro w58 hw; have hg : wr.grownBy w58 (some go56) := (by rw [hw]; exact HP57.2); have hz_ : Kd.R (Kd.int .i64) 3 w58 w.heap.size oki57 (.slice (some ⟨go56, 0, none⟩) (rd_L4 x5_2 x6_1).length c467_0) y474 := (by rw [hw, Ny474.out]; exact HP57.1); have hp_ : Kd.S (Kd.slice 3 (Kd.int .i64)) 24 w58 w.heap.size (fun _ => True) (.slice (some ⟨go14, 0, none⟩) x5_2.length co14) y476 := (by rw [Ny476.out]; exact hbk57 hg (fun k_ e_ => by injection e_ with e_; subst e_; exact ge57_0.1 _ rfl) (Kd.M_row hz_)); have hm_ := Kd.R_mono hz_ hok57; clear HP57 hbk57; have n0_ := Aside0.mk (hp_); have n1_ := Aside0.mk ((by rw [hw]; exact below_set (HB.out) GB56.out : Below w.heap.size w w58)); have n2_ := Aside0.mk (hm_); have n3_ := Aside0.mk ((Kd.R_reads' hm_).2.1); clear HO_5; clear HB; clear HL465_0; clear HL467_0; clear HL469_0; clear HL471_0; clear HL473_0; have HO_5 := n0_; have HB := n1_; have HL483 := n2_; have HC475 := n3_; clear n0_ n1_ n2_ n3_; clear hg hw hp_ hz_ hm_ hok57)); try go_wp2_with (((with_reducible refine gate_store (t := 3) (p := 83) rfl ?_); (try (rw [drewN_self wr]; generalize hq_ : World.drewN wr _ = wr; have n0_ := Aside0.mk (Kd.S_at hq_ HO_5.out); have n1_ := Aside0.mk (below_at hq_ HB.out); have n2_ := Aside0.mk (cell_at hq_ HX473_0.out); clear HX473_0; have HX473_0 := n2_; clear n2_; clear hq_ HO_5 HB; have HO_5 := n0_; have HB := n1_; clear n0_ n1_; (try (have hq57 : (x6_1 : Int) < (x5_2.length : Int) := (by have h_ : (x6_1 : Int) < ((x5_2.length : Int) : Int) := of_decide_eq_true (by (with_reducible assumption)); exact h_))); (try (obtain ⟨oki57, ce57, hcl57, hM57, hcc57, hok57, hbk57⟩ := Kd.S_borrow HO_5.out [] (x6_1 : Int) (of_decide_eq_true (by (with_reducible assumption))) hq57)); (try (obtain ⟨ve57_0, rfl, ge57_0⟩ := hM57)); (try (have hv57 := hcc57 0 _ rfl)); (try (rw [Nat.add_zero, show ((Kd.slice 3 (Kd.int .i64))).sz = 1 from rfl, Nat.mul_one] at hv57)); (try (replace hv57 := Option.some.inj (hv57.symm.trans HX473_0.out))); (try (subst hv57)); (try (clear hcc57 hcl57)); (try (replace ge57_0 := (show Kd.R (Kd.int .i64) 3 _ _ _ _ (rd_L4 x5_2 x6_1) from ge57_0))); (try (obtain ⟨hxs_, hfs_⟩ := Kd.R_celln 0 ge57_0 (x7_2 : Int) (of_eq_true p56) (of_eq_true q56))); (try (have HP57 := Kd.R_putg ge57_0 (x7_2 : Int) ji54)))); refine store_event (t := 3) (p := 83) (v := ?vo_w58) (w1 := (wr.setCell ⟨go56, (x7_2 : Int).toNat, none⟩ (.int .i64 ji54))) ?hg ?ho ?hn ?hr ?_; (case ho => rfl); (case hg => rfl); (case hn => rfl); (case hr => (go_simp; done)); intro w58 hw; have hg : wr.grownBy w58 (some go56) := (by rw [hw]; exact HP57.2); have hz_ : Kd.R (Kd.int .i64) 3 w58 w.heap.size oki57 (.slice (some ⟨go56, 0, none⟩) (rd_L4 x5_2 x6_1).length c467_0) y474 := (by rw [hw, Ny474.out]; exact HP57.1); have hp_ : Kd.S (Kd.slice 3 (Kd.int .i64)) 24 w58 w.heap.size (fun _ => True) (.slice (some ⟨go14, 0, none⟩) x5_2.length co14) y476 := (by rw [Ny476.out]; exact hbk57 hg (fun k_ e_ => by injection e_ with e_; subst e_; exact ge57_0.1 _ rfl) (Kd.M_row hz_)); have hm_ := Kd.R_mono hz_ hok57; clear HP57 hbk57; have n0_ := Aside0.mk (hp_); have n1_ := Aside0.mk ((by rw [hw]; exact below_set (HB.out) GB56.out : Below w.heap.size w w58)); have n2_ := Aside0.mk (hm_); have n3_ := Aside0.mk ((Kd.R_reads' hm_).2.1); clear HO_5; clear HB; clear HL465_0; clear HL467_0; clear HL469_0; clear HL471_0; clear HL473_0; have HO_5 := n0_; have HB := n1_; have HL483 := n2_; have HC475 := n3_; clear n0_ n1_ n2_ n3_; clear hg hw hp_ hz_ hm_ hok57)))
     (try simp only [← hl5_2])
     go_roundg k2
     case measure => have := HK1.out; have := HK2.out; omega
     case rel => exact ⟨(y476), (wrap64 (x7_2 - 1)), (by rfl), H', ⟨by have := HK1.out; have := HK2.out; omega⟩, ⟨by (try simp only [hl5_2]); (with_reducible repeat (first | apply Kd.S_alloc | apply Kd.S_drewN | apply Kd.S_drew)); exact HO_5.out⟩, ⟨by repeat ((with_reducible exact HB.out))⟩⟩

end Go.Proofs.Ytljmhhadclgegaa.PFnBatch

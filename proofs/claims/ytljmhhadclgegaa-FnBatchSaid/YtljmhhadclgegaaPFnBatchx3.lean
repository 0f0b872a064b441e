-- Laid by a program of this session: what the print of the kit writes, and contracts of the session where the print takes no function. Lean checks it.
import Derived.Test.YtljmhhadclgegaaPFnBatchx0
namespace Go.Proofs.Ytljmhhadclgegaa.PFnBatch
open Go.RowKit Go.Proofs.YtljmhhadclgegaaW.PrintWords Go.Proofs.YtljmhhadclgegaaW.PrintLast Go.Proofs.YtljmhhadclgegaaW.PrintMore
attribute [local go_sem] max2_int min2_int max_two min_two max_three min_three max_four min_four   -- for this text's walks alone
set_option linter.unusedVariables false
set_option linter.unusedSimpArgs false

/-! ### impl_setLane: function 51 -/
def impl_setLane.l0 : Nat → List Int → Int → Int → Int → Int → Option (List Int)
  | 0, _, _, _, _, _ => none
  | k + 1, x0, x1, x2, x8, x9 => if x9 < x8 then (if 0 ≤ x9 then (if x9 < (x0.length : Int) then (if 0 ≤ x1 then (impl_setLane.l0 k (x0.set (x9 : Int).toNat (Go.bits .or .u64 (rd x0 x9) (shl .u64 (IntKind.u64.wrap (Go.bits .and .i64 (shr .i64 x2 x9) 1)) x1))) x1 x2 x8 (wrap64 (x9 + 1))) else (none)) else (none)) else (none)) else (some x0)
def impl_setLane.f (k : Nat) (l0 : List Int) (a1 : Int) (a2 : Int) : Option (List Int) := impl_setLane.l0 k l0 a1 a2 (l0.length : Int) 0
theorem impl_setLane.mono_l : ∀ k, (∀ y0 y1 y2 y3 y4, LeO (impl_setLane.l0 k y0 y1 y2 y3 y4) (impl_setLane.l0 (k + 1) y0 y1 y2 y3 y4))
  | 0 => fun _ _ _ _ _ r h => by simp [impl_setLane.l0] at h
  | k + 1 => by
    have ih0 := impl_setLane.mono_l k
    · intro y0 y1 y2 y3 y4
      unfold impl_setLane.l0
      repeat' first | (with_reducible exact ih0 _ _ _ _ _) | (with_reducible exact LeO.refl _) | (with_reducible refine LeO.ite ?_ ?_)
theorem impl_setLane.mono : ∀ a0 a1 a2 k, LeO (impl_setLane.f k a0 a1 a2) (impl_setLane.f (k + 1) a0 a1 a2) := by
  intro a0 a1 a2 k
  have ih0 := impl_setLane.mono_l k
  unfold impl_setLane.f
  repeat' (with_reducible exact ih0 _ _ _ _ _)
def impl_setLane.T3 : Bool × List (List Nat × List Nat) := (true, [([], []), ([], []), ([0, 1], [0, 1]), ([2], [2]), ([], []), ([], []), ([4, 5], [4, 5]), ([6], [6]), ([7], [7]), ([], []), ([8, 9], [8, 9]), ([3, 10], [3, 10]), ([0, 1, 0, 1, 2, 3, 4, 5, 6, 7, 8, 9, 10, 11], [0, 1]), ([12, 11, 0, 1, 2, 3, 4, 5, 6, 7, 8, 9, 10, 11], [11, 12])])
def impl_setLane.B3 : List Nat := [0, 0, 3, 7, 0, 0, 48, 112, 240, 0, 1008, 2047, 4095, 8191]
theorem impl_setLane.tab3 : rtab .any (opsOf Try.f51 3) = impl_setLane.T3 := by kernel_rfl
theorem impl_setLane.bits3 : waitsOk impl_setLane.T3.2 impl_setLane.B3 = true := by kernel_rfl
set_option maxHeartbeats 8000000 in
set_option maxRecDepth 100000 in
theorem impl_setLane.calls (k : Nat) (P0_ : Nat → Prop) (u9000_ : Value) (l0 : List Int) (a1 : Int) (a2 : Int) (r : List Int) (w0 w : World) (hB : Below w0.heap.size w0 w) (ho0 : Kd.R (Kd.int .u64) 30 w w0.heap.size P0_ u9000_ l0) (h : impl_setLane.f k l0 a1 a2 = some r) :
    Calls Try.prog 51 #[u9000_, .int .i64 a1, .int .i64 a2] w fun e w' => e = .returned (.tuple #[]) ∧ Kd.R (Kd.int .u64) 30 w' w0.heap.size (fun k_ => (P0_ k_ ∨ w.heap.size ≤ k_)) u9000_ r ∧ Below w0.heap.size w0 w' ∧ Kept w w' (fun k_ => P0_ k_) := by
  have HO0 := Aside0.mk (show Kd.R (Kd.int .u64) 30 w w0.heap.size (fun k_ => (P0_ k_ ∨ w.heap.size ≤ k_)) u9000_ l0 from Kd.R_mono ho0 (fun k_ hk => (.inl hk)))
  have HK := Aside0.mk (Kept.refl w (fun k_ => P0_ k_))
  have HW0 := Aside0.mk hB.size
  have HB := Aside0.mk hB
  clear hB
  have H : (impl_setLane.l0 k l0 a1 a2 (l0.length : Int) 0) = some r := h
  clear h
  have H' := Aside0.mk H
  clear H
  obtain ⟨Ao4, co4, eo4⟩ := Kd.R_slice HO0.out
  subst eo4
  go_enter Try.func51, Try.ntmps51
  go_wp2
  go_loopg [9] k (fun kq v9 w' => ∃ (x0_1 : List Int) (x9_1 : Int), v9 = .int .i64 x9_1 ∧ Aside0 (impl_setLane.l0 kq x0_1 a1 a2 (l0.length : Int) x9_1 = some r) ∧ Aside0 (kq ≤ k) ∧ Aside0 (Kd.R (Kd.int .u64) 30 w' w0.heap.size (fun k_ => (P0_ k_ ∨ w.heap.size ≤ k_)) (.slice Ao4 l0.length co4) x0_1) ∧ Aside0 (Kept w w' (fun k_ => P0_ k_)) ∧ Aside0 (Below w0.heap.size w0 w'))
  case atStart => exact ⟨(l0), (0), (by rfl), H', ⟨Nat.le_refl _⟩, ⟨by (with_reducible repeat (first | apply Kd.R_alloc | apply Kd.R_drewN | apply Kd.R_drew)); exact HO0.out⟩, ⟨by repeat ((with_reducible exact HK.out))⟩, ⟨by repeat ((with_reducible exact HB.out))⟩⟩
  case round =>
    clear H'
    try clear p2
    obtain ⟨x0_1, x9_1, rfl, HA, HK1, HO_0, HK, HB⟩ := hrel
    have hl0_1 := (Kd.R_reads' HO_0.out).1
    rw [hl0_1] at HO_0
    (try simp only [hl0_1])
    cases gk with
    | zero => exact absurd HA.out (by simp [impl_setLane.l0])
    | succ k1 =>
      have H := HA.out
      clear HA
      simp only [impl_setLane.l0] at H
      by_cases c5 : x9_1 < (l0.length : Int)
      · rw [if_pos c5] at H
        have c5b0 : decide (x9_1 < (l0.length : Int)) = true := decide_eq_true c5
        (try rw [hl0_1] at c5b0)
        clear c5
        by_cases c6 : 0 ≤ x9_1
        · rw [if_pos c6] at H
          have c6b0 : decide (0 ≤ x9_1) = true := decide_eq_true c6
          clear c6
          by_cases c7 : x9_1 < (x0_1.length : Int)
          · rw [if_pos c7] at H
            have c7b0 : decide (x9_1 < (x0_1.length : Int)) = true := decide_eq_true c7
            (try rw [hl0_1] at c7b0)
            clear c7
            have c8b0 := eq_true (of_decide_eq_true (by (with_reducible assumption)) : 0 ≤ x9_1)
            obtain ⟨ji9, hji9⟩ : ∃ j_ : Int, (shr .i64 a2 x9_1) = j_ := ⟨_, rfl⟩
            replace H : (if 0 ≤ a1 then (impl_setLane.l0 k1 (x0_1.set (x9_1 : Int).toNat (Go.bits .or .u64 (rd x0_1 x9_1) (shl .u64 (IntKind.u64.wrap (Go.bits .and .i64 (ji9) 1)) a1))) a1 a2 (l0.length : Int) (wrap64 (x9_1 + 1))) else (none)) = some r := by (rw [hji9] at H; exact H)
            have hji9_ : (a2 / 2 ^ min x9_1.toNat 64) = ji9 := hji9
            have hji9z : x9_1 ≤ 64 → (a2 / 2 ^ x9_1.toNat) = ji9 := shr_small hji9
            by_cases c10 : 0 ≤ a1
            · rw [if_pos c10] at H
              have c10b0 := eq_true c10
              have c10b1 : decide (0 ≤ a1) = true := decide_eq_true c10
              clear c10
              obtain ⟨ji11, hji11⟩ : ∃ j_ : Int, (shl .u64 (IntKind.u64.wrap (Go.bits .and .i64 (ji9) 1)) a1) = j_ := ⟨_, rfl⟩
              replace H : (impl_setLane.l0 k1 (x0_1.set (x9_1 : Int).toNat (Go.bits .or .u64 (rd x0_1 x9_1) (ji11))) a1 a2 (l0.length : Int) (wrap64 (x9_1 + 1))) = some r := by (rw [hji11] at H; exact H)
              have hji11_ : (IntKind.u64.wrap ((IntKind.u64.wrap (Go.bits .and .i64 (ji9) 1)) * 2 ^ min a1.toNat 64)) = ji11 := hji11
              have hji11z : a1 ≤ 64 → (IntKind.u64.wrap ((IntKind.u64.wrap (Go.bits .and .i64 (ji9) 1)) * 2 ^ a1.toNat)) = ji11 := shl_small hji11
              obtain ⟨y145, hy145⟩ : ∃ y_ : List Int, y_ = (x0_1.set (x9_1 : Int).toNat (Go.bits .or .u64 (rd x0_1 x9_1) (ji11))) := ⟨_, rfl⟩
              replace H : (impl_setLane.l0 k1 y145 a1 a2 (l0.length : Int) (wrap64 (x9_1 + 1))) = some r := by (rw [hy145]; with_reducible exact H)
              have Ny145 := Aside0.mk hy145
              clear hy145
              have H' := Aside0.mk H
              clear H
              try go_wp2
              have n0_ := Aside0.mk (Kd.R_drew HO_0.out)
              have n1_ := Aside0.mk (Kept.drew HK.out)
              have n2_ := Aside0.mk (below_drew1 HB.out)
              clear HO_0
              clear HK
              clear HB
              have HO_0 := n0_
              have HK := n1_
              have HB := n2_
              clear n0_ n1_ n2_
              have p144 : 0 ≤ (x9_1 : Int) := of_decide_eq_true (by (with_reducible assumption))
              have q144 : x9_1 < (x0_1.length : Int) := of_decide_eq_true (by (with_reducible assumption))
              obtain ⟨Aq144, cq144, eq144⟩ := Kd.R_slice HO_0.out
              clear eq144
              obtain ⟨ad144, e144, hx144_0⟩ := Kd.at_int (Kd.R_reads' HO_0.out).2.2 x9_1 p144 q144
              cases e144
              replace p144 := eq_true p144
              replace q144 := eq_true q144
              have p12 : 0 ≤ (x9_1 : Int) := of_decide_eq_true (by (with_reducible assumption))
              have q12 : (x9_1 : Int) < ((x0_1.length : Int) : Int) := of_decide_eq_true (by (with_reducible assumption))
              obtain ⟨go12, co12, eo12, gb12, gl12, cl12, HG12⟩ := Kd.R_form HO_0.out (by omega)
              (cases eo12)
              have GB12 := Aside0.mk gb12
              have GG12 := Aside0.mk HG12
              clear gb12 gl12 HG12
              have HMgo12 := Aside0.mk (show (P0_ go12 ∨ w.heap.size ≤ go12) from (HO_0.out.1 _ rfl))
              (simp only [add_plain] at hx144_0)
              obtain ⟨hx12_0, hf12_0⟩ := Kd.R_celln 0 HO_0.out (x9_1 : Int) p12 q12
              replace p12 := eq_true p12
              replace q12 := eq_true q12
              have HP14 := Kd.R_putn HO_0.out (x9_1 : Int) (Go.bits .or .u64 (rd x0_1 x9_1) (ji11))
              rw [← Ny145.out] at HP14
              have HQ14 := Aside0.mk HP14
              clear HP14
              refine start_ (n := 14) (S := fun w' => w'.cell? ⟨go12, (x9_1).toNat, none⟩ = some (.int .u64 (rd x0_1 x9_1))) (ds := [13]) #[false, false, false, false, false, false, false, false, false, false, false, false, false, false] (by kernel_rfl) rfl rfl (hx144_0) (fun hHeld => ?_); refine with_tabW impl_setLane.tab3 impl_setLane.bits3 (fun HT_ HW_ => ?_)
              generalize wr.drew = w13 at HO_0 HK HB GG12 HQ14 hf12_0 hx12_0 hx144_0 hHeld ⊢
              refine pure_ (i := 0) (N := some 12) (v := ?_) (a' := ?_) #[true, false, false, false, false, false, false, false, false, false, false, false, false, false] rfl rfl (any_of HT_.out (by kernel_rfl)) (fun _ _ _ h => h) (Or.inl ⟨by rfl, ?_⟩) ?_ ?_
              rotate_left
              · intro w'
                go_simp
                with_reducible rfl
              rotate_left
              · simp only [Act.put, List.setIfInBounds_toArray, List.set_cons_zero, List.set_cons_succ, i64_w, i32_w]
                rfl
              refine pure_ (i := 1) (N := some 13) (v := ?_) (a' := ?_) #[true, true, false, false, false, false, false, false, false, false, false, false, false, false] rfl rfl (any_of HT_.out (by kernel_rfl)) (fun _ _ _ h => h) (Or.inl ⟨by rfl, ?_⟩) ?_ ?_
              rotate_left
              · intro w'
                go_simp
                with_reducible rfl
              rotate_left
              · simp only [Act.put, List.setIfInBounds_toArray, List.set_cons_zero, List.set_cons_succ, i64_w, i32_w]
                rfl
              refine pure_ (i := 2) (N := some 14) (v := ?_) (a' := ?_) #[true, true, true, false, false, false, false, false, false, false, false, false, false, false] rfl rfl (any_of HT_.out (by kernel_rfl)) (fun _ _ _ h => h) (Or.inl ⟨by rfl, ?_⟩) ?_ ?_
              rotate_left
              · intro w'
                go_simp
                with_reducible rfl
              rotate_left
              · simp only [Act.put, List.setIfInBounds_toArray, List.set_cons_zero, List.set_cons_succ, i64_w, i32_w]
                rfl
              refine pure_ (i := 4) (N := some 16) (v := ?_) (a' := ?_) #[true, true, true, false, true, false, false, false, false, false, false, false, false, false] rfl rfl (any_of HT_.out (by kernel_rfl)) (fun _ _ _ h => h) (Or.inl ⟨by rfl, ?_⟩) ?_ ?_
              rotate_left
              · intro w'
                go_simp
                with_reducible rfl
              rotate_left
              · simp only [Act.put, List.setIfInBounds_toArray, List.set_cons_zero, List.set_cons_succ, i64_w, i32_w]
                rfl
              refine pure_ (i := 5) (N := some 17) (v := ?_) (a' := ?_) #[true, true, true, false, true, true, false, false, false, false, false, false, false, false] rfl rfl (any_of HT_.out (by kernel_rfl)) (fun _ _ _ h => h) (Or.inl ⟨by rfl, ?_⟩) ?_ ?_
              rotate_left
              · intro w'
                go_simp
                with_reducible rfl
              rotate_left
              · simp only [Act.put, List.setIfInBounds_toArray, List.set_cons_zero, List.set_cons_succ, i64_w, i32_w]
                rfl
              refine pure_ (i := 6) (N := some 18) (v := ?_) (a' := ?_) #[true, true, true, false, true, true, true, false, false, false, false, false, false, false] rfl rfl (any_of HT_.out (by kernel_rfl)) (fun _ _ _ h => h) (Or.inl ⟨by rfl, ?_⟩) ?_ ?_
              rotate_left
              · intro w'
                go_simp
                with_reducible rfl
              rotate_left
              · simp only [Act.put, List.setIfInBounds_toArray, List.set_cons_zero, List.set_cons_succ, i64_w, i32_w]
                rfl
              refine pure_ (i := 7) (N := some 19) (v := ?_) (a' := ?_) #[true, true, true, false, true, true, true, true, false, false, false, false, false, false] rfl rfl (any_of HT_.out (by kernel_rfl)) (fun _ _ _ h => h) (Or.inl ⟨by rfl, ?_⟩) ?_ ?_
              rotate_left
              · intro w'
                go_simp
                with_reducible rfl
              rotate_left
              · simp only [Act.put, List.setIfInBounds_toArray, List.set_cons_zero, List.set_cons_succ, i64_w, i32_w]
                rfl
              refine pure_ (i := 8) (N := some 20) (v := ?_) (a' := ?_) #[true, true, true, false, true, true, true, true, true, false, false, false, false, false] rfl rfl (any_of HT_.out (by kernel_rfl)) (fun _ _ _ h => h) (Or.inl ⟨by rfl, ?_⟩) ?_ ?_
              rotate_left
              · intro w'
                go_simp
                with_reducible rfl
              rotate_left
              · simp only [Act.put, List.setIfInBounds_toArray, List.set_cons_zero, List.set_cons_succ, i64_w, i32_w]
                rfl
              refine pure_ (i := 9) (N := some 21) (v := ?_) (a' := ?_) #[true, true, true, false, true, true, true, true, true, true, false, false, false, false] rfl rfl (any_of HT_.out (by kernel_rfl)) (fun _ _ _ h => h) (Or.inl ⟨by rfl, ?_⟩) ?_ ?_
              rotate_left
              · intro w'
                go_simp
                with_reducible rfl
              rotate_left
              · simp only [Act.put, List.setIfInBounds_toArray, List.set_cons_zero, List.set_cons_succ, i64_w, i32_w]
                rfl
              refine pure_ (i := 10) (N := some 22) (v := ?_) (a' := ?_) #[true, true, true, false, true, true, true, true, true, true, true, false, false, false] rfl rfl (any_of HT_.out (by kernel_rfl)) (fun _ _ _ h => h) (Or.inl ⟨by rfl, ?_⟩) ?_ ?_
              rotate_left
              · intro w'
                go_simp
                with_reducible rfl
              rotate_left
              · simp only [Act.put, List.setIfInBounds_toArray, List.set_cons_zero, List.set_cons_succ, i64_w, i32_w]
                rfl
              refine take_ (i := 3) (N := some 15) (v := ?_) (a' := ?_) #[true, true, true, true, true, true, true, true, true, true, true, false, false, false] rfl rfl (take_ofW HT_.out HW_.out (by kernel_rfl)) (fun _ _ _ h => h) (Or.inl ⟨by rfl, ?_⟩) hHeld ?_ ?_
              rotate_left
              · intro w' s0
                go_simp
                with_reducible rfl
              rotate_left
              · simp only [Act.put, List.setIfInBounds_toArray, List.set_cons_zero, List.set_cons_succ, i64_w, i32_w]
                rfl
              refine pure_ (i := 11) (N := some 23) (v := ?_) (a' := ?_) #[true, true, true, true, true, true, true, true, true, true, true, true, false, false] rfl rfl (any_of HT_.out (by kernel_rfl)) (fun _ _ _ h => h) (Or.inl ⟨by rfl, ?_⟩) ?_ ?_
              rotate_left
              · intro w'
                go_simp
                with_reducible rfl
              rotate_left
              · simp only [Act.put, List.setIfInBounds_toArray, List.set_cons_zero, List.set_cons_succ, i64_w, i32_w]
                rfl
              refine pure_ (i := 12) (N := some 24) (v := ?_) (a' := ?_) #[true, true, true, true, true, true, true, true, true, true, true, true, true, false] rfl rfl (any_of HT_.out (by kernel_rfl)) (fun _ _ _ h => h) (Or.inl ⟨by rfl, ?_⟩) ?_ ?_
              rotate_left
              · intro w'
                go_simp
                with_reducible rfl
              rotate_left
              · simp only [Act.put, List.setIfInBounds_toArray, List.set_cons_zero, List.set_cons_succ, i64_w, i32_w]
                rfl
              refine last_ (i := 13) (N := none) #[true, true, true, true, true, true, true, true, true, true, true, true, true, true] rfl rfl (one_of HT_.out (by kernel_rfl)) (by decide) (fun K hK => ?_)
              refine skip_ (w1 := ?_) (by rfl) rfl ?_ ?_
              rotate_left
              · go_simp
                rfl
              refine hK.out _ _ ?_
              clear hK K
              refine done_ (done_of HT_.out (by kernel_rfl)) ?_
              try go_wp2
              (try simp only [← hl0_1])
              go_roundg k1
              case measure => have := HK1.out; omega
              case rel => exact ⟨(y145), (wrap64 (x9_1 + 1)), (by rfl), H', ⟨by have := HK1.out; omega⟩, ⟨by (try simp only [hl0_1]); (with_reducible repeat (first | apply Kd.R_alloc | apply Kd.R_drewN | apply Kd.R_drew)); exact HQ14.out⟩, ⟨by repeat ((with_reducible first | exact HK.out | refine Kept.setCell ?_ HMgo12.out _))⟩, ⟨by repeat ((with_reducible first | exact HB.out | refine below_set ?_ GB12.out))⟩⟩
            · rw [if_neg c10] at H
              exact absurd H (by simp)
          · rw [if_neg c7] at H
            exact absurd H (by simp)
        · rw [if_neg c6] at H
          exact absurd H (by simp)
      · rw [if_neg c5] at H
        have c5b0 : decide (x9_1 < (l0.length : Int)) = false := decide_eq_false c5
        (try rw [hl0_1] at c5b0)
        clear c5
        obtain rfl := Option.some.inj H
        go_wp2
        go_end0
        exact ⟨by rfl, (by exact (by (with_reducible repeat (first | apply Kd.R_alloc | apply Kd.R_drewN | apply Kd.R_drew)); exact HO_0.out)), by repeat ((with_reducible exact HB.out)), by repeat ((with_reducible exact HK.out))⟩

/-! ### impl_within: function 50 -/
def impl_within.f (a0 : Int) (a1 : Int) (a2 : Int) : Option (Bool) := if a0 ≥ a1 then (some (decide (a0 ≤ a2))) else (some false)
set_option maxHeartbeats 8000000 in
set_option maxRecDepth 100000 in
theorem impl_within.calls (a0 : Int) (a1 : Int) (a2 : Int) (r : Bool) (w : World) (h : impl_within.f a0 a1 a2 = some r) :
    Calls Try.prog 50 #[.int .i64 a0, .int .i64 a1, .int .i64 a2] w fun e w' => e = .returned (.bool r) ∧ Drawn0 w w' := by
  have H : (if a0 ≥ a1 then (some (decide (a0 ≤ a2))) else (some false)) = some r := h
  clear h
  by_cases c4 : a0 ≥ a1
  · rw [if_pos c4] at H
    have c4b0 : decide (a1 ≤ a0) = true := decide_eq_true c4
    clear c4
    obtain rfl := Option.some.inj H
    go_enter Try.func50, Try.ntmps50
    go_wp2
    go_ret
    exact ⟨by rfl, by repeat (exact Drawn0.refl _)⟩
  · rw [if_neg c4] at H
    have c4b0 : decide (a1 ≤ a0) = false := decide_eq_false c4
    clear c4
    obtain rfl := Option.some.inj H
    go_enter Try.func50, Try.ntmps50
    go_wp2
    go_ret
    exact ⟨by rfl, by repeat (exact Drawn0.refl _)⟩

/-! ### impl_isWord: function 74 -/
def impl_isWord.l0 : Nat → ByteArray → Int → Int → Option (Bool)
  | 0, _, _, _ => none
  | k + 1, x0, x5, x6 => if x6 < x5 then (if 0 ≤ x6 then (if x6 < (x0.size : Int) then (if (bt x0 x6) < 97 then (some false) else (if (bt x0 x6) > 122 then (some false) else (impl_isWord.l0 k x0 x5 (wrap64 (x6 + 1))))) else (none)) else (none)) else ((impl_within.f (x0.size : Int) 1 32).bind fun t146 => (some t146))
def impl_isWord.f (k : Nat) (a0 : ByteArray) : Option (Bool) := impl_isWord.l0 k a0 (a0.size : Int) 0
theorem impl_isWord.mono_l : ∀ k, (∀ y0 y1 y2, LeO (impl_isWord.l0 k y0 y1 y2) (impl_isWord.l0 (k + 1) y0 y1 y2))
  | 0 => fun _ _ _ r h => by simp [impl_isWord.l0] at h
  | k + 1 => by
    have ih0 := impl_isWord.mono_l k
    · intro y0 y1 y2
      unfold impl_isWord.l0
      repeat' first | (with_reducible exact ih0 _ _ _) | (with_reducible exact LeO.refl _) | (with_reducible refine LeO.ite ?_ ?_)
theorem impl_isWord.mono : ∀ a0 k, LeO (impl_isWord.f k a0) (impl_isWord.f (k + 1) a0) := by
  intro a0 k
  have ih0 := impl_isWord.mono_l k
  unfold impl_isWord.f
  repeat' (with_reducible exact ih0 _ _ _)
set_option maxHeartbeats 8000000 in
set_option maxRecDepth 100000 in
theorem impl_isWord.calls (k : Nat) (a0 : ByteArray) (r : Bool) (w : World) (h : impl_isWord.f k a0 = some r) :
    Calls Try.prog 74 #[.string a0] w fun e w' => e = .returned (.bool r) ∧ Drawn0 w w' := by
  have H : (impl_isWord.l0 k a0 (a0.size : Int) 0) = some r := h
  clear h
  have H' := Aside0.mk H
  clear H
  go_enter Try.func74, Try.ntmps74
  go_wp2
  go_loopg [6] k (fun kq v6 w' => ∃ (x6_1 : Int), v6 = .int .i64 x6_1 ∧ Aside0 (impl_isWord.l0 kq a0 (a0.size : Int) x6_1 = some r) ∧ Aside0 (kq ≤ k) ∧ Drawn0 w w')
  case atStart => exact ⟨(0), (by rfl), H', ⟨Nat.le_refl _⟩, by repeat (exact Drawn0.refl _)⟩
  case round =>
    clear H'
    obtain ⟨x6_1, rfl, HA, HK1, ⟨m1, rfl⟩⟩ := hrel
    cases gk with
    | zero => exact absurd HA.out (by simp [impl_isWord.l0])
    | succ k1 =>
      have H := HA.out
      clear HA
      simp only [impl_isWord.l0] at H
      by_cases c2 : x6_1 < (a0.size : Int)
      · rw [if_pos c2] at H
        have c2b0 : decide (x6_1 < (a0.size : Int)) = true := decide_eq_true c2
        clear c2
        by_cases c3 : 0 ≤ x6_1
        · rw [if_pos c3] at H
          have c3b0 : decide (0 ≤ x6_1) = true := decide_eq_true c3
          clear c3
          by_cases c4 : x6_1 < (a0.size : Int)
          · rw [if_pos c4] at H
            have c4b0 : decide (x6_1 < (a0.size : Int)) = true := decide_eq_true c4
            clear c4
            by_cases c6 : (bt a0 x6_1) < 97
            · rw [if_pos c6] at H
              have c6b0 : decide ((bt a0 x6_1) < 97) = true := decide_eq_true c6
              clear c6
              obtain rfl := Option.some.inj H
              have p5 : 0 ≤ (x6_1 : Int) := of_decide_eq_true (by (with_reducible assumption))
              have q5 : x6_1 < (a0.size : Int) := of_decide_eq_true (by (with_reducible assumption))
              have hx5 := bt_at a0 x6_1
              replace p5 := eq_true p5
              replace q5 := eq_true q5
              go_wp2
              go_ret
              exact ⟨by rfl, by repeat (first | exact Drawn0.refl _ | apply Drawn0.step)⟩
            · rw [if_neg c6] at H
              have c6b0 : decide ((bt a0 x6_1) < 97) = false := decide_eq_false c6
              clear c6
              by_cases c8 : (bt a0 x6_1) > 122
              · rw [if_pos c8] at H
                have c8b0 : decide (122 < (bt a0 x6_1)) = true := decide_eq_true c8
                clear c8
                obtain rfl := Option.some.inj H
                have p5 : 0 ≤ (x6_1 : Int) := of_decide_eq_true (by (with_reducible assumption))
                have q5 : x6_1 < (a0.size : Int) := of_decide_eq_true (by (with_reducible assumption))
                have hx5 := bt_at a0 x6_1
                replace p5 := eq_true p5
                replace q5 := eq_true q5
                have p7 : 0 ≤ (x6_1 : Int) := of_decide_eq_true (by (with_reducible assumption))
                have q7 : x6_1 < (a0.size : Int) := of_decide_eq_true (by (with_reducible assumption))
                have hx7 := bt_at a0 x6_1
                replace p7 := eq_true p7
                replace q7 := eq_true q7
                go_wp2
                go_ret
                exact ⟨by rfl, by repeat (first | exact Drawn0.refl _ | apply Drawn0.step)⟩
              · rw [if_neg c8] at H
                have c8b0 : decide (122 < (bt a0 x6_1)) = false := decide_eq_false c8
                clear c8
                have H' := Aside0.mk H
                clear H
                have p5 : 0 ≤ (x6_1 : Int) := of_decide_eq_true (by (with_reducible assumption))
                have q5 : x6_1 < (a0.size : Int) := of_decide_eq_true (by (with_reducible assumption))
                have hx5 := bt_at a0 x6_1
                replace p5 := eq_true p5
                replace q5 := eq_true q5
                have p7 : 0 ≤ (x6_1 : Int) := of_decide_eq_true (by (with_reducible assumption))
                have q7 : x6_1 < (a0.size : Int) := of_decide_eq_true (by (with_reducible assumption))
                have hx7 := bt_at a0 x6_1
                replace p7 := eq_true p7
                replace q7 := eq_true q7
                go_wp2
                go_roundg k1
                case measure => have := HK1.out; omega
                case rel => exact ⟨(wrap64 (x6_1 + 1)), (by rfl), H', ⟨by have := HK1.out; omega⟩, by repeat (first | exact Drawn0.refl _ | apply Drawn0.step)⟩
          · rw [if_neg c4] at H
            exact absurd H (by simp)
        · rw [if_neg c3] at H
          exact absurd H (by simp)
      · rw [if_neg c2] at H
        have c2b0 : decide (x6_1 < (a0.size : Int)) = false := decide_eq_false c2
        clear c2
        replace H := Option.bind_eq_some_iff.mp H
        obtain ⟨t146, A90, H⟩ := H
        replace H : (some t146) = some r := H
        have A9 := Aside0.mk A90
        clear A90
        obtain rfl := Option.some.inj H
        go_wp2_with (((with_reducible refine gate_callee (f := 50) rfl ?_); refine goesL_ (some 22) rfl rfl Try.func50 (by kernel_rfl) rfl #[.int .i64 (a0.size : Int), .int .i64 1, .int .i64 32] rfl (by (try simp only [List.map_toArray, List.map_cons, List.map_nil]); rfl) ?_; (with_reducible refine (impl_within.calls (a0.size : Int) 1 32 t146 _ A9.out).mono ?_); rintro e w' ⟨rfl, ⟨nd, rfl⟩⟩; refine ⟨_, rfl, ?_⟩))
        go_ret
        exact ⟨by rfl, by repeat (first | exact Drawn0.refl _ | apply Drawn0.step)⟩

/-! ### impl_planesOf: function 57 -/
theorem sub_set (X : List Int) (o n kk : Nat) (hk : kk < n) (h : o + n ≤ X.length) (v : Int) : ((X.set (o + kk) v).drop o).take n = ((X.drop o).take n).set kk v := by
  rw [List.drop_set, if_neg (by omega), List.take_set, Nat.add_sub_cancel_left]
theorem sub_rd (X : List Int) (o n kk : Nat) (hk : kk < n) (h : o + n ≤ X.length) : rd ((X.drop o).take n) (kk : Int) = rd X ((o + kk : Nat) : Int) := by
  unfold rd
  rw [Int.toNat_natCast, Int.toNat_natCast]
  simp [hk, List.getElem?_drop]
set_option maxHeartbeats 4000000 in
theorem impl_setLane.calls_sub (kf : Nat) (P0 : Nat → Prop) (g o n c cap : Nat) (L : List Int) (a1 a2 : Int) (r : List Int) (w0 w : World) (hB : Below w0.heap.size w0 w) (hgb : w0.heap.size ≤ g) (ho0 : Kd.R (Kd.int .u64) 30 w w0.heap.size P0 (.slice (some ⟨g, 0, none⟩) L.length cap) L) (ho : o + n ≤ L.length) (hn : n ≤ 1000) (h : impl_setLane.f kf ((L.drop o).take n) a1 a2 = some r) :
    Calls Try.prog 51 #[.slice (some ⟨g, o, none⟩) n c, .int .i64 a1, .int .i64 a2] w fun e w' => e = .returned (.tuple #[]) ∧ Kd.R (Kd.int .u64) 30 w' w0.heap.size P0 (.slice (some ⟨g, 0, none⟩) L.length cap) (L.take o ++ (r ++ L.drop (o + n))) ∧ Below w0.heap.size w0 w' ∧ KeepBut w w' g none := by
  have HB := Aside0.mk hB
  have HO := Aside0.mk ho0
  have HK := Aside0.mk (KeepBut.refl w g none)
  have hln : ((L.drop o).take n).length = n := by rw [List.length_take, List.length_drop]; omega
  have HF : Aside0 (∃ kf, impl_setLane.l0 kf ((L.drop o).take n) a1 a2 (n : Int) ((0 : Nat) : Int) = some r) := ⟨kf, by unfold impl_setLane.f at h; rw [hln] at h; exact h⟩
  clear h ho0 hB hln
  go_enter Try.func51, Try.ntmps51
  go_wp2
  go_loopg [9] n (fun gg s9 wr => ∃ (kk : Nat) (X : List Int), kk ≤ n ∧ n - kk ≤ gg ∧ s9 = .int .i64 kk ∧ X.length = L.length ∧ Aside0 (Kd.R (Kd.int .u64) 30 wr w0.heap.size P0 (.slice (some ⟨g, 0, none⟩) L.length cap) X) ∧ Aside0 (Below w0.heap.size w0 wr) ∧ Aside0 (KeepBut w wr g none) ∧ Aside0 (∃ kf, impl_setLane.l0 kf ((X.drop o).take n) a1 a2 (n : Int) (kk : Int) = some r) ∧ Aside0 (X.take o = L.take o ∧ X.drop (o + n) = L.drop (o + n)))
  case atStart => exact ⟨0, L, Nat.zero_le _, by omega, rfl, rfl, HO, HB, HK, HF, ⟨rfl, rfl⟩⟩
  case round =>
    clear HO HB HK HF
    obtain ⟨kk, X, hkk, hgg, rfl, hXl, HO, HB, HK, HF, HT⟩ := hrel
    obtain ⟨kf, hF⟩ := HF.out
    clear HF
    cases kf with
    | zero => simp [impl_setLane.l0] at hF
    | succ kf =>
      simp only [impl_setLane.l0] at hF
      have hln : ((X.drop o).take n).length = n := by rw [List.length_take, List.length_drop]; omega
      by_cases hlt : kk < n
      · have hltz : (kk : Int) < (n : Int) := by omega
        rw [if_pos hltz, if_pos (by omega), if_pos (by rw [hln]; omega)] at hF
        by_cases ha : 0 ≤ a1
        · rw [if_pos ha, Int.toNat_natCast, sub_rd X o n kk hlt (by omega), ← sub_set X o n kk hlt (by omega), show wrap64 ((kk : Int) + 1) = ((kk + 1 : Nat) : Int) from by unfold wrap64; omega] at hF
          have HF := Aside0.mk hF
          clear hF hln
          have hcl := Kd.R_celln (0 : Int) HO.out ((o + kk : Nat) : Int) (by omega) (by omega)
          rw [Int.toNat_natCast] at hcl
          obtain ⟨hc, hf⟩ := hcl
          replace hc : wr.cell? ⟨g, o + kk, none⟩ = some (.int .u64 (rd X ((o + kk : Nat) : Int))) := hc
          generalize hv : rd X ((o + kk : Nat) : Int) = v at hc HF
          go_wp2
          go_region
          all_goals go_wp2
          all_goals (go_roundg (n - (kk + 1)))
          case measure => omega
          case rel =>
            have hp := Kd.R_putn HO.out ((o + kk : Nat) : Int) (Go.bits .or .u64 v (shl .u64 (IntKind.u64.wrap (Go.bits .and .i64 (shr .i64 a2 (kk : Int)) 1)) a1))
            rw [Int.toNat_natCast] at hp
            exact ⟨kk + 1, X.set (o + kk) (Go.bits .or .u64 v (shl .u64 (IntKind.u64.wrap (Go.bits .and .i64 (shr .i64 a2 (kk : Int)) 1)) a1)), by omega, by omega, by go_num, by simpa using hXl, ⟨Kd.R_drew hp⟩, ⟨(HB.out.setCell hgb _).drew⟩, ⟨keep_drew (KeepBut.set_ HK.out _ _)⟩, ⟨kf, HF.out⟩, ⟨by rw [List.take_set_of_le (by omega)]; exact HT.out.1, by rw [List.drop_set_of_lt (by omega)]; exact HT.out.2⟩⟩
        · rw [if_neg ha] at hF; cases hF
      · have hltz : ¬ (kk : Int) < (n : Int) := by omega
        rw [if_neg hltz] at hF
        have hr : (X.drop o).take n = r := Option.some.inj hF
        go_wp2
        go_end0
        refine ⟨rfl, ?_, HB.out, HK.out⟩
        have e : L.take o ++ (r ++ L.drop (o + n)) = X := by
          rw [← hr, ← HT.out.1, ← HT.out.2, ← List.drop_drop, List.take_append_drop, List.take_append_drop]
        rw [e]
        exact HO.out
theorem three_new (w : World) (X Y Z : Obj) : (((w.alloc X).alloc Y).alloc Z).drew.heap[w.heap.size]? = some X ∧ (((w.alloc X).alloc Y).alloc Z).drew.heap[w.heap.size + 1]? = some Y ∧ (((w.alloc X).alloc Y).alloc Z).drew.heap[w.heap.size + 1 + 1]? = some Z := by
  have e1 : (w.alloc X).heap.size = w.heap.size + 1 := by simp
  have e2 : ((w.alloc X).alloc Y).heap.size = w.heap.size + 1 + 1 := by simp
  refine ⟨blk_drew (blk_alloc (blk_alloc (blk_new w X) Y) Z), ?_, ?_⟩
  · exact blk_drew (blk_alloc (e1 ▸ blk_new (w.alloc X) Y) Z)
  · exact blk_drew (e2 ▸ blk_new ((w.alloc X).alloc Y) Z)
theorem R_of_block {wc : World} {base g n : Nat} {ok : Nat → Prop} (hb : base ≤ g) (hok : ok g) (hn : n ≤ 1000) (hh : wc.heap[g]? = some (.cells (madeCells #[.int .u64 0] n) 30 (0, 0))) : Kd.R (Kd.int .u64) 30 wc base ok (.slice (some ⟨g, 0, none⟩) n n) (List.replicate n (0 : Int)) := by
  have hs : (madeCells #[Value.int .u64 0] n).size = n := by simp [size_madeCells]
  refine ⟨fun k hk => ?_, (madeCells #[Value.int .u64 0] n).toList, ⟨by (simp [size_madeCells]; show n = n * 1; omega), .inr ⟨g, n, madeCells #[.int .u64 0] n, by simp, hb, hh, by simp, by unfold maxLen; omega, by rw [hs]; show n = n * 1; omega, ?_⟩⟩, ?_⟩
  · have : g = k := by simpa [Value.ownBlock] using hk
    subst this
    exact hok
  · rw [List.take_of_length_le]
    simp [size_madeCells]
    show n ≤ n * 1
    omega
  · have:= Kd.reps_made (R := fun (x : Int) cs => cs = [Value.int .u64 x]) (z := .int .u64 0) (size := 1) (z0 := 0) rfl (by decide) rfl n
    rw [Nat.mul_one] at this
    exact this
def impl_planesOf.lets (k : Nat) (b : ByteArray) (lane : Int) : Nat → Nat → List Int → Option (List Int)
  | 0, _, L => some L
  | d + 1, p, L => if 5 * p + 5 ≤ L.length then ((impl_setLane.f k ((L.drop (5 * p)).take 5) lane (wrap64 ((wrap64 (IntKind.u8.wrap (bt b (p : Int) - 97))) + 1))).bind fun r => impl_planesOf.lets k b lane d (p + 1) (L.take (5 * p) ++ (r ++ L.drop (5 * p + 5)))) else none
def impl_planesOf.l (k : Nat) : List ByteArray → Nat → List Int → List Int → Option (Bool × List Int × List Int)
  | [], _, A, B => some (true, A, B)
  | b :: bs, lane, A, B => (if b.toList = ([] : List UInt8) then some true else impl_isWord.f k b).bind fun t => if t = true then ((impl_setLane.f k A (lane : Int) (b.size : Int)).bind fun A' => (impl_planesOf.lets k b (lane : Int) b.size 0 B).bind fun B' => impl_planesOf.l k bs (lane + 1) A' B') else some (false, ([] : List Int), ([] : List Int))
def impl_planesOf.f (k : Nat) (l0 : List ByteArray) : Option (Int × List Int × List Int × Bool) :=
  if (l0.length : Int) > 64 then some (0, ([] : List Int), ([] : List Int), false) else ((impl_planesOf.l k l0 0 (List.replicate 6 0) (List.replicate 160 0)).bind fun x => if x.1 = true then some ((l0.length : Int), x.2.1, x.2.2, true) else some (0, ([] : List Int), ([] : List Int), false))
theorem impl_planesOf.lets_mono (k : Nat) (b : ByteArray) (lane : Int) : ∀ (d p : Nat) (L : List Int), LeO (impl_planesOf.lets k b lane d p L) (impl_planesOf.lets (k + 1) b lane d p L)
  | 0, _, L => LeO.refl _
  | d + 1, p, L => by
    rw [impl_planesOf.lets, impl_planesOf.lets]
    exact LeO.ite (LeO.bind (impl_setLane.mono _ _ _ k) (fun _ => impl_planesOf.lets_mono k b lane d _ _)) (LeO.refl _)
theorem impl_planesOf.l_mono (k : Nat) : ∀ (bs : List ByteArray) (lane : Nat) (A B : List Int), LeO (impl_planesOf.l k bs lane A B) (impl_planesOf.l (k + 1) bs lane A B)
  | [], _, _, _ => LeO.refl _
  | b :: bs, lane, A, B => by
    rw [impl_planesOf.l, impl_planesOf.l]
    exact LeO.bind (LeO.ite (LeO.refl _) (impl_isWord.mono _ k)) (fun t => LeO.ite (LeO.bind (impl_setLane.mono _ _ _ k) (fun _ => LeO.bind (impl_planesOf.lets_mono k b _ _ _ _) (fun _ => impl_planesOf.l_mono k bs _ _ _))) (LeO.refl _))
theorem impl_planesOf.mono : ∀ a0 k, LeO (impl_planesOf.f k a0) (impl_planesOf.f (k + 1) a0) := by
  intro a0 k
  unfold impl_planesOf.f
  exact LeO.ite (LeO.refl _) (LeO.bind (impl_planesOf.l_mono k _ _ _ _) (fun _ => LeO.refl _))
set_option maxHeartbeats 4000000 in
set_option maxRecDepth 100000 in
theorem impl_planesOf.calls (k : Nat) (A0 : Option Addr) (c0 : Nat) (l0 : List ByteArray) (r1 : Int) (r2 : List Int) (r3 : List Int) (r4 : Bool) (w : World) (hr0 : Kd.C Kd.string w A0 l0.length l0) (hc0 : l0.length ≤ c0) (h : impl_planesOf.f k l0 = some (r1, r2, r3, r4)) :
    Calls Try.prog 57 #[.slice A0 l0.length c0] w fun e w' => ∃ v1_ v2_ : Value, e = .returned (.tuple #[.agg #[.int .i64 r1, v1_, v2_], .bool r4]) ∧ Kd.R (Kd.int .u64) 30 w' w.heap.size (fun k_ => some k_ ≠ (v2_ : Value).ownBlock) v1_ r2 ∧ Kd.R (Kd.int .u64) 30 w' w.heap.size (fun k_ => some k_ ≠ (v1_ : Value).ownBlock) v2_ r3 ∧ Below w.heap.size w w' := by
  have hu37 := Try.underlying37
  have HR0 := Aside0.mk hr0
  have HC0 := Aside0.mk hc0
  clear hr0 hc0
  unfold impl_planesOf.f at h
  by_cases c64 : (l0.length : Int) > 64
  · rw [if_pos c64] at h
    obtain ⟨rfl, rfl, rfl, rfl⟩ : (0 : Int) = r1 ∧ ([] : List Int) = r2 ∧ ([] : List Int) = r3 ∧ false = r4 := by simpa using h
    go_enter Try.func57, Try.ntmps57
    go_wp2_with ((with_reducible refine gate_dst (N := 2) rfl ?_); refine box_event ?hg (N := 2) ?hd (cs := #[.int .i64 0, .slice none 0 0, .slice none 0 0]) (t := 37) ?hr ?_; (case hd => rfl); (case hg => rfl); (case hr => (go_simp; done)); intro gR hg w1 hbox hb; have HB := Aside0.mk hb; have BKR := Aside0.mk hbox; have GR := Aside0.mk (show w.heap.size ≤ gR by omega); clear hb hbox hg; have hcR0 : w1.cell? ⟨gR, 0, none⟩ = some (.int .i64 0) := (blk_cell BKR.out 0).trans rfl; have hcR1 : w1.cell? ⟨gR, 1, none⟩ = some (.slice none 0 0) := (blk_cell BKR.out 1).trans rfl; have hcR2 : w1.cell? ⟨gR, 2, none⟩ = some (.slice none 0 0) := (blk_cell BKR.out 2).trans rfl; have hfR0 := blk_frozen BKR.out 0; have hfR1 := blk_frozen BKR.out 1; have hfR2 := blk_frozen BKR.out 2)
    refine bodyPost_ret (results_ct rfl _ _ gR 37 #[.int .i64 0, .slice none 0 0, .slice none 0 0] (0, 0) _ rfl (by refine blk_put (cs := #[.int .i64 0, .slice none 0 0, .slice none 0 0]) ?_ 2 _ rfl; refine blk_put (cs := #[.int .i64 0, .slice none 0 0, .slice none 0 0]) ?_ 1 _ rfl; refine blk_put (cs := #[.int .i64 0, .slice none 0 0, .slice none 0 0]) ?_ 0 _ rfl; exact BKR.out) Try.underlying37 rfl (by kernel_rfl)) rfl ?_
    exact ⟨_, _, rfl, Kd.R_nil _ _ _ _ _, Kd.R_nil _ _ _ _ _, below_set (below_set (below_set HB.out GR.out) GR.out) GR.out⟩
  · rw [if_neg c64] at h
    have HF := Aside0.mk h
    clear h
    obtain ⟨i0, hi0, hzz⟩ := Option.map_eq_some_iff.1 (show (Try.prog.info? 30).map (fun i => (i.zero, i.size, i.bytes)) = some (some (.int .u64 0), 1, 8) from by kernel_rfl)
    simp only [Prod.mk.injEq] at hzz
    obtain ⟨hz0, hz1, hz2⟩ := hzz
    have hmk : ∀ (m : Nat) (W : World), m ≤ 1000 → (Instr.makeSlice 27 (.int .i64 (m : Int)) (.int .i64 (m : Int))).run Try.prog W = .ok (.slice (some ⟨W.heap.size, 0, none⟩) m m) (W.alloc (.cells (madeCells #[.int .u64 0] m) 30)) := by
      intro m W hm
      have hr := run_make (P := Try.prog) (w := W) 27 30 i0 (.int .u64 0) Try.underlying27 hi0 hz0 .i64 .i64 (m : Int) (m : Int) (by omega) (by omega) (by rw [hz2]; omega) (by omega)
      rw [hz1, Int.toNat_natCast, Nat.mul_one] at hr
      exact hr
    have hm6 : ∀ W : World, (Instr.makeSlice 27 (.int .i64 6) (.int .i64 6)).run Try.prog W = .ok (.slice (some ⟨W.heap.size, 0, none⟩) 6 6) (W.alloc (.cells (madeCells #[.int .u64 0] 6) 30)) := fun W => hmk 6 W (by decide)
    have hm160 : ∀ W : World, (Instr.makeSlice 27 (.int .i64 160) (.int .i64 160)).run Try.prog W = .ok (.slice (some ⟨W.heap.size, 0, none⟩) 160 160) (W.alloc (.cells (madeCells #[.int .u64 0] 160) 30)) := fun W => hmk 160 W (by decide)
    clear hmk hi0 hz0 hz1 hz2
    obtain ⟨M6, hM6⟩ : ∃ M, M = madeCells #[.int .u64 0] 6 := ⟨_, rfl⟩
    obtain ⟨M160, hM160⟩ : ∃ M, M = madeCells #[.int .u64 0] 160 := ⟨_, rfl⟩
    rw [← hM6] at hm6
    rw [← hM160] at hm160
    have HM6 := Aside0.mk hM6
    have HM160 := Aside0.mk hM160
    clear hM6 hM160
    go_enter Try.func57, Try.ntmps57
    go_upto_region 3 with ((with_reducible refine gate_dst (N := 2) rfl ?_); refine box_event ?hg (N := 2) ?hd (cs := #[.int .i64 0, .slice none 0 0, .slice none 0 0]) (t := 37) ?hr ?_; (case hd => rfl); (case hg => rfl); (case hr => (go_simp; done)); intro gR hg w1 hbox hb; have HB := Aside0.mk hb; have BKR := Aside0.mk hbox; have GR := Aside0.mk (show w.heap.size ≤ gR by omega); clear hb hbox hg)
    (try simp only [Act.put, List.setIfInBounds_toArray, List.set_cons_zero, List.set_cons_succ])
    go_cut [4] (fun s4 wc => ∃ (gS gL gT : Nat), s4 = .pointer (some ⟨gS, 0, none⟩) ∧ Aside0 (wc.heap[gS]? = some (.cells #[.int .i64 (l0.length : Int), .slice (some ⟨gL, 0, none⟩) 6 6, .slice (some ⟨gT, 0, none⟩) 160 160] 37 (0, 0))) ∧ Aside0 (wc.heap[gR]? = some (.cells #[.int .i64 0, .slice none 0 0, .slice none 0 0] 37 (0, 0))) ∧ Aside0 (Kd.R (Kd.int .u64) 30 wc w.heap.size (fun k_ => k_ ≠ gT ∧ k_ ≠ gS ∧ k_ ≠ gR) (.slice (some ⟨gL, 0, none⟩) 6 6) (List.replicate 6 (0 : Int))) ∧ Aside0 (Kd.R (Kd.int .u64) 30 wc w.heap.size (fun k_ => k_ ≠ gL ∧ k_ ≠ gS ∧ k_ ≠ gR) (.slice (some ⟨gT, 0, none⟩) 160 160) (List.replicate 160 (0 : Int))) ∧ Aside0 (gS ≠ gR ∧ w.heap.size ≤ gS ∧ w.heap.size ≤ gL ∧ w.heap.size ≤ gT ∧ gL ≠ gT ∧ gL ≠ gS ∧ gL ≠ gR ∧ gT ≠ gS ∧ gT ≠ gR) ∧ Aside0 (Below w.heap.size w wc))
    case first =>
      go_region
      all_goals (repeat (go_step))
      all_goals go_meet
      all_goals (case rel =>
        have hlt := blk_lt BKR.out
        have hsz := HB.out.size
        first | (refine ⟨w1.heap.size, w1.heap.size + 1, w1.heap.size + 1 + 1, rfl, ⟨?_⟩, ⟨blk_drew (blk_alloc (blk_alloc (blk_alloc BKR.out _) _) _)⟩, ⟨R_of_block (n := 6) (by omega) (by omega) (by decide) ?_⟩, ⟨R_of_block (n := 160) (by omega) (by omega) (by decide) ?_⟩, ⟨by omega⟩, ⟨((((HB.out.alloc HB.out.size _).alloc (by have := HB.out.size; simp; omega) _).alloc (by have := HB.out.size; simp; omega) _).drew)⟩⟩ <;> (try rw [← HM6.out]) <;> (try rw [← HM160.out]) <;> (first | exact (three_new _ _ _ _).1 | exact (three_new _ _ _ _).2.1 | exact (three_new _ _ _ _).2.2)) | (refine ⟨w1.heap.size, w1.heap.size + 1 + 1, w1.heap.size + 1, rfl, ⟨?_⟩, ⟨blk_drew (blk_alloc (blk_alloc (blk_alloc BKR.out _) _) _)⟩, ⟨R_of_block (n := 6) (by omega) (by omega) (by decide) ?_⟩, ⟨R_of_block (n := 160) (by omega) (by omega) (by decide) ?_⟩, ⟨by omega⟩, ⟨((((HB.out.alloc HB.out.size _).alloc (by have := HB.out.size; simp; omega) _).alloc (by have := HB.out.size; simp; omega) _).drew)⟩⟩ <;> (try rw [← HM6.out]) <;> (try rw [← HM160.out]) <;> (first | exact (three_new _ _ _ _).1 | exact (three_new _ _ _ _).2.1 | exact (three_new _ _ _ _).2.2)) | (refine ⟨w1.heap.size + 1, w1.heap.size, w1.heap.size + 1 + 1, rfl, ⟨?_⟩, ⟨blk_drew (blk_alloc (blk_alloc (blk_alloc BKR.out _) _) _)⟩, ⟨R_of_block (n := 6) (by omega) (by omega) (by decide) ?_⟩, ⟨R_of_block (n := 160) (by omega) (by omega) (by decide) ?_⟩, ⟨by omega⟩, ⟨((((HB.out.alloc HB.out.size _).alloc (by have := HB.out.size; simp; omega) _).alloc (by have := HB.out.size; simp; omega) _).drew)⟩⟩ <;> (try rw [← HM6.out]) <;> (try rw [← HM160.out]) <;> (first | exact (three_new _ _ _ _).1 | exact (three_new _ _ _ _).2.1 | exact (three_new _ _ _ _).2.2)) | (refine ⟨w1.heap.size + 1, w1.heap.size + 1 + 1, w1.heap.size, rfl, ⟨?_⟩, ⟨blk_drew (blk_alloc (blk_alloc (blk_alloc BKR.out _) _) _)⟩, ⟨R_of_block (n := 6) (by omega) (by omega) (by decide) ?_⟩, ⟨R_of_block (n := 160) (by omega) (by omega) (by decide) ?_⟩, ⟨by omega⟩, ⟨((((HB.out.alloc HB.out.size _).alloc (by have := HB.out.size; simp; omega) _).alloc (by have := HB.out.size; simp; omega) _).drew)⟩⟩ <;> (try rw [← HM6.out]) <;> (try rw [← HM160.out]) <;> (first | exact (three_new _ _ _ _).1 | exact (three_new _ _ _ _).2.1 | exact (three_new _ _ _ _).2.2)) | (refine ⟨w1.heap.size + 1 + 1, w1.heap.size, w1.heap.size + 1, rfl, ⟨?_⟩, ⟨blk_drew (blk_alloc (blk_alloc (blk_alloc BKR.out _) _) _)⟩, ⟨R_of_block (n := 6) (by omega) (by omega) (by decide) ?_⟩, ⟨R_of_block (n := 160) (by omega) (by omega) (by decide) ?_⟩, ⟨by omega⟩, ⟨((((HB.out.alloc HB.out.size _).alloc (by have := HB.out.size; simp; omega) _).alloc (by have := HB.out.size; simp; omega) _).drew)⟩⟩ <;> (try rw [← HM6.out]) <;> (try rw [← HM160.out]) <;> (first | exact (three_new _ _ _ _).1 | exact (three_new _ _ _ _).2.1 | exact (three_new _ _ _ _).2.2)) | (refine ⟨w1.heap.size + 1 + 1, w1.heap.size + 1, w1.heap.size, rfl, ⟨?_⟩, ⟨blk_drew (blk_alloc (blk_alloc (blk_alloc BKR.out _) _) _)⟩, ⟨R_of_block (n := 6) (by omega) (by omega) (by decide) ?_⟩, ⟨R_of_block (n := 160) (by omega) (by omega) (by decide) ?_⟩, ⟨by omega⟩, ⟨((((HB.out.alloc HB.out.size _).alloc (by have := HB.out.size; simp; omega) _).alloc (by have := HB.out.size; simp; omega) _).drew)⟩⟩ <;> (try rw [← HM6.out]) <;> (try rw [← HM160.out]) <;> (first | exact (three_new _ _ _ _).1 | exact (three_new _ _ _ _).2.1 | exact (three_new _ _ _ _).2.2)))
    case rest =>
      rename_i K hK
      obtain ⟨gS, gL, gT, rfl, BKS, BKR2, HL, HT, HG, HB2⟩ := hcut
      clear HB BKR hm6 hm160 HM6 HM160
      have HB := HB2
      have BKR := BKR2
      clear HB2 BKR2
      refine hK _ _ ?_
      clear hK
      obtain ⟨x, hx, hy⟩ := Option.bind_eq_some_iff.1 HF.out
      clear HF
      have HF := Aside0.mk hx
      have HY := Aside0.mk hy
      clear hx hy
      obtain ⟨⟨hgSR, hgS, hgL, hgT, hgLT, hgLS, hgLR, hgTS, hgTR⟩⟩ := HG
      have hl64 : l0.length ≤ 64 := by omega
      go_wp2
      go_loopg [19] l0.length (fun gg s19 wr => ∃ (kk : Nat) (A B : List Int), kk ≤ l0.length ∧ l0.length - kk ≤ gg ∧ s19 = .int .i64 kk ∧ A.length = 6 ∧ B.length = 160 ∧ Aside0 (wr.heap[gS]? = some (.cells #[.int .i64 (l0.length : Int), .slice (some ⟨gL, 0, none⟩) 6 6, .slice (some ⟨gT, 0, none⟩) 160 160] 37 (0, 0))) ∧ Aside0 (wr.heap[gR]? = some (.cells #[.int .i64 0, .slice none 0 0, .slice none 0 0] 37 (0, 0))) ∧ Aside0 (Kd.R (Kd.int .u64) 30 wr w.heap.size (fun k_ => k_ ≠ gT ∧ k_ ≠ gS ∧ k_ ≠ gR) (.slice (some ⟨gL, 0, none⟩) 6 6) A) ∧ Aside0 (Kd.R (Kd.int .u64) 30 wr w.heap.size (fun k_ => k_ ≠ gL ∧ k_ ≠ gS ∧ k_ ≠ gR) (.slice (some ⟨gT, 0, none⟩) 160 160) B) ∧ Aside0 (Below w.heap.size w wr) ∧ Aside0 (impl_planesOf.l k (l0.drop kk) kk A B = some x))
      case atStart => exact ⟨0, _, _, Nat.zero_le _, by omega, rfl, by simp, by simp, BKS, BKR, HL, HT, HB, HF⟩
      case round =>
        clear BKS BKR HL HT HB HF
        obtain ⟨kk, A, B, hkk, hgg, rfl, hA, hB', BKS, BKR, HL, HT, HB, HF⟩ := hrel
        by_cases hlt : kk < l0.length
        · have hltz : (kk : Int) < (l0.length : Int) := by omega
          obtain ⟨ad, e, h0⟩ := Kd.at_string HR0.out (kk : Int) (by omega) hltz
          cases e
          rw [Int.toNat_natCast] at h0
          replace h0 := (HB.out.cell (World.block_lt_of_cell? w _ h0)).trans h0
          have hX : rdOf ByteArray.empty l0 (kk : Int) = l0[kk] := by simp [rdOf, hlt]
          have HX := HF.out
          rw [List.drop_eq_getElem_cons hlt, ← hX] at HX
          clear HF hX
          generalize rdOf ByteArray.empty l0 (kk : Int) = b at h0 HX
          rw [impl_planesOf.l] at HX
          obtain ⟨t, ht, HX⟩ := Option.bind_eq_some_iff.1 HX
          have hcS0 : wr.cell? ⟨gS, 0, none⟩ = some (.int .i64 (l0.length : Int)) := (blk_cell BKS.out 0).trans rfl; have hcS1 : wr.cell? ⟨gS, 1, none⟩ = some (.slice (some ⟨gL, 0, none⟩) 6 6) := (blk_cell BKS.out 1).trans rfl; have hcS2 : wr.cell? ⟨gS, 2, none⟩ = some (.slice (some ⟨gT, 0, none⟩) 160 160) := (blk_cell BKS.out 2).trans rfl
          have hcR0 : wr.cell? ⟨gR, 0, none⟩ = some (.int .i64 0) := (blk_cell BKR.out 0).trans rfl; have hcR1 : wr.cell? ⟨gR, 1, none⟩ = some (.slice none 0 0) := (blk_cell BKR.out 1).trans rfl; have hcR2 : wr.cell? ⟨gR, 2, none⟩ = some (.slice none 0 0) := (blk_cell BKR.out 2).trans rfl; have hfR0 := blk_frozen BKR.out 0; have hfR1 := blk_frozen BKR.out 1; have hfR2 := blk_frozen BKR.out 2
          by_cases hbe : b.toList = ([] : List UInt8)
          · rw [if_pos hbe] at ht
            obtain rfl := Option.some.inj ht
            clear ht
            have hbe0 : (b.toList == ([] : List UInt8)) = true := beq_iff_eq.mpr hbe
            have hbe1 : (b.toList != ([] : List UInt8)) = false := bne_eq_false_iff_eq.mpr hbe
            clear hbe
            rw [if_pos rfl] at HX
            obtain ⟨A', hA', HX⟩ := Option.bind_eq_some_iff.1 HX
            obtain ⟨B', hB1, HX⟩ := Option.bind_eq_some_iff.1 HX
            have HF := Aside0.mk HX
            have HI := Aside0.mk hB1
            clear HX hB1
            go_wp2_with (go_at_call 51; refine (impl_setLane.calls_sub k (fun k_ => k_ ≠ gT ∧ k_ ≠ gS ∧ k_ ≠ gR) gL 0 6 6 6 A (kk : Int) (b.size : Int) A' w _ HB.out hgL (by rw [hA]; exact HL.out) (by omega) (by decide) (by rw [List.drop_zero, List.take_of_length_le (by omega)]; exact hA')).mono ?_; rintro e w3 ⟨rfl, hr, hb, hkp⟩; have n1_ := Aside0.mk (KeepBut.blk hkp BKS.out hgLS.symm (by simp)); have n2_ := Aside0.mk (KeepBut.blk hkp BKR.out hgLR.symm (by simp)); have n3_ := Aside0.mk (show Kd.R (Kd.int .u64) 30 w3 w.heap.size (fun k_ => k_ ≠ gT ∧ k_ ≠ gS ∧ k_ ≠ gR) (.slice (some ⟨gL, 0, none⟩) 6 6) A' from by (have e_ : A.take 0 ++ (A' ++ A.drop (0 + 6)) = A' := (by rw [List.drop_eq_nil_of_le (by omega)]; simp); rw [e_, hA] at hr; exact hr)); have n4_ := Aside0.mk (Kd.R_keep HT.out hkp (fun k_ hk_ => hk_.1)); have n5_ := Aside0.mk hb; clear hcS0 hcS1 hcS2 hr hb hkp BKS BKR HL HT HB; have BKS := n1_; have BKR := n2_; have HL := n3_; have HT := n4_; have HB := n5_; clear n1_ n2_ n3_ n4_ n5_)
            have hA2 : A'.length = 6 := ((Kd.R_reads' HL.out).1).symm
            go_loopg [40] b.size (fun gg s40 wi => ∃ (p : Nat) (X : List Int), p ≤ b.size ∧ b.size - p ≤ gg ∧ s40 = .int .i64 p ∧ X.length = 160 ∧ Aside0 (wi.heap[gS]? = some (.cells #[.int .i64 (l0.length : Int), .slice (some ⟨gL, 0, none⟩) 6 6, .slice (some ⟨gT, 0, none⟩) 160 160] 37 (0, 0))) ∧ Aside0 (wi.heap[gR]? = some (.cells #[.int .i64 0, .slice none 0 0, .slice none 0 0] 37 (0, 0))) ∧ Aside0 (Kd.R (Kd.int .u64) 30 wi w.heap.size (fun k_ => k_ ≠ gT ∧ k_ ≠ gS ∧ k_ ≠ gR) (.slice (some ⟨gL, 0, none⟩) 6 6) A') ∧ Aside0 (Kd.R (Kd.int .u64) 30 wi w.heap.size (fun k_ => k_ ≠ gL ∧ k_ ≠ gS ∧ k_ ≠ gR) (.slice (some ⟨gT, 0, none⟩) 160 160) X) ∧ Aside0 (Below w.heap.size w wi) ∧ Aside0 (impl_planesOf.lets k b (kk : Int) (b.size - p) p X = some B'))
            case atStart => exact ⟨0, B, Nat.zero_le _, by omega, rfl, hB', BKS, BKR, HL, HT, HB, HI⟩
            case round =>
              clear BKS BKR HL HT HB HI
              obtain ⟨p, X, hp, hgp, rfl, hXl, BKS, BKR, HL, HT, HB, HI⟩ := hrel
              by_cases hpt : p < b.size
              · have hptz : (p : Int) < (b.size : Int) := by omega
                have HY := HI.out
                clear HI
                rw [show b.size - p = (b.size - (p + 1)) + 1 from by omega] at HY
                rw [impl_planesOf.lets] at HY
                by_cases h5 : 5 * p + 5 ≤ X.length
                · rw [if_pos h5] at HY
                  obtain ⟨r, hr, HY⟩ := Option.bind_eq_some_iff.1 HY
                  have HI := Aside0.mk HY
                  clear HY
                  have HSL := Aside0.mk hr
                  clear hr
                  have e5w : IntKind.i64.wrap (5 * (p : Int)) = 5 * (p : Int) := by rw [IntKind.wrap_i64]; omega
                  have e6w : IntKind.i64.wrap (5 * (p : Int) + 5) = 5 * (p : Int) + 5 := by rw [IntKind.wrap_i64]; omega
                  have hcS2 : wr.cell? ⟨gS, 2, none⟩ = some (.slice (some ⟨gT, 0, none⟩) 160 160) := (blk_cell BKS.out 2).trans rfl
                  go_wp2
                  refine wp_region_still_tail 15 (by kernel_rfl) (by kernel_rfl) ?_
                  simp only [List.take_succ_cons, List.take_zero, List.drop_succ_cons, List.drop_zero]
                  have HBd := Aside0.mk HB.out.drew
                  have HTd := Aside0.mk (Kd.R_drew HT.out)
                  have HLd := Aside0.mk (Kd.R_drew HL.out)
                  have BKSd := Aside0.mk (blk_drew BKS.out)
                  have BKRd := Aside0.mk (blk_drew BKR.out)
                  change wpStill _ _ (World.drew _) (fun a' => wpList _ _ _ _ a' (World.drew _)) _ _
                  generalize World.drew wr = W2 at HBd HTd HLd BKSd BKRd ⊢
                  clear hcS2 HB HT HL BKS BKR
                  have HB := HBd
                  have HT := HTd
                  have HL := HLd
                  have BKS := BKSd
                  have BKR := BKRd
                  clear HBd HTd HLd BKSd BKRd
                  have hcS2 : W2.cell? ⟨gS, 2, none⟩ = some (.slice (some ⟨gT, 0, none⟩) 160 160) := (blk_cell BKS.out 2).trans rfl
                  repeat still_step
                  try simp only [e5w]
                  refine wpStill_step (fun K hK => ?_)
                  go_simp
                  try simp only [e6w]
                  rw [if_pos (show 0 ≤ 5 * (p : Int) + 5 ∧ 5 * (p : Int) + 5 ≤ 160 by omega), if_pos (show 0 ≤ 5 * (p : Int) ∧ 5 * (p : Int) ≤ max (5 * (p : Int) + 5) 0 by omega), if_neg (show ¬ 160 = (5 * (p : Int)).toNat by omega), show (5 * (p : Int) + 5).toNat - (5 * (p : Int)).toNat = 5 from by omega, show (5 * (p : Int)).toNat = 5 * p from by omega]
                  dsimp only
                  refine ⟨rfl, hK _ ?_⟩
                  clear hK K
                  repeat still_step
                  refine wpStill_nil ?_
                  have hsl : impl_setLane.f k ((X.drop (5 * p)).take 5) (kk : Int) (wrap64 (wrap64 (((b[p]'hpt).toNat - 97 : Int) % 256) + 1)) = some r := by
                    have e_ : IntKind.u8.wrap (bt b (p : Int) - 97) = (((b[p]'hpt).toNat - 97 : Int) % 256) := by
                      rw [IntKind.wrap_u8, ← bt_at b (p : Int) (by simpa using hpt)]; rfl
                    rw [← e_]
                    exact HSL.out
                  have HSL2 := Aside0.mk hsl
                  clear hsl HSL
                  go_wp2_with (go_at_call 51; refine (impl_setLane.calls_sub k (fun k_ => k_ ≠ gL ∧ k_ ≠ gS ∧ k_ ≠ gR) gT (5 * p) 5 (160 - 5 * p) 160 X (kk : Int) _ r w _ HB.out hgT (by rw [hXl]; exact HT.out) (by omega) (by decide) HSL2.out).mono ?_; rintro e w3 ⟨rfl, hr, hb, hkp⟩; have n1_ := Aside0.mk (KeepBut.blk hkp BKS.out hgTS.symm (by simp)); have n2_ := Aside0.mk (KeepBut.blk hkp BKR.out hgTR.symm (by simp)); have n3_ := Aside0.mk (show Kd.R (Kd.int .u64) 30 w3 w.heap.size (fun k_ => k_ ≠ gL ∧ k_ ≠ gS ∧ k_ ≠ gR) (.slice (some ⟨gT, 0, none⟩) 160 160) (X.take (5 * p) ++ (r ++ X.drop (5 * p + 5))) from (by rw [hXl] at hr; exact hr)); have n4_ := Aside0.mk (Kd.R_keep HL.out hkp (fun k_ hk_ => hk_.1)); have n5_ := Aside0.mk hb; clear hcS2 hr hb hkp BKS BKR HL HT HB; have BKS := n1_; have BKR := n2_; have HT := n3_; have HL := n4_; have HB := n5_; clear n1_ n2_ n3_ n4_ n5_)
                  have hX2 : (X.take (5 * p) ++ (r ++ X.drop (5 * p + 5))).length = 160 := ((Kd.R_reads' HT.out).1).symm
                  all_goals (go_roundg (b.size - (p + 1)))
                  case measure => omega
                  case rel => exact ⟨p + 1, _, by omega, by omega, by go_num, hX2, BKS, BKR, HL, HT, HB, HI⟩
                · rw [if_neg h5] at HY
                  exact absurd HY (by simp)
              · have hpe : p = b.size := by omega
                have hptz : ¬ (p : Int) < (b.size : Int) := by omega
                have HY := HI.out
                clear HI
                rw [show b.size - p = 0 from by omega] at HY
                obtain rfl : X = B' := Option.some.inj HY
                clear HY
                go_wp2
                all_goals (go_roundg (l0.length - (kk + 1)))
                case measure => omega
                case rel => exact ⟨kk + 1, A', X, by omega, by omega, by go_num, hA2, hXl, BKS, BKR, HL, HT, HB, HF⟩
          · rw [if_neg hbe] at ht
            have hbe0 : (b.toList == ([] : List UInt8)) = false := beq_eq_false_iff_ne.mpr hbe
            have hbe1 : (b.toList != ([] : List UInt8)) = true := bne_iff_ne.mpr hbe
            clear hbe
            cases t with
            | true =>
              rw [if_pos rfl] at HX
              obtain ⟨A', hA', HX⟩ := Option.bind_eq_some_iff.1 HX
              obtain ⟨B', hB1, HX⟩ := Option.bind_eq_some_iff.1 HX
              have HF := Aside0.mk HX
              have HI := Aside0.mk hB1
              clear HX hB1
              go_wp2_with (first | (go_at_call 74; refine (impl_isWord.calls k b true _ ht).mono ?_; rintro e w2 ⟨rfl, hd⟩; have n1_ := Aside0.mk (blk_below BKS.out hd.below); have n2_ := Aside0.mk (blk_below BKR.out hd.below); have n3_ := Aside0.mk (Kd.R_below HL.out hd.below); have n4_ := Aside0.mk (Kd.R_below HT.out hd.below); have n5_ := Aside0.mk (below_step HB.out hd.below); clear hcS0 hcS1 hcS2 hcR0 hcR1 hcR2 hfR0 hfR1 hfR2 hd BKS BKR HL HT HB; have BKS := n1_; have BKR := n2_; have HL := n3_; have HT := n4_; have HB := n5_; clear n1_ n2_ n3_ n4_ n5_; have hcS0 : w2.cell? ⟨gS, 0, none⟩ = some (.int .i64 (l0.length : Int)) := (blk_cell BKS.out 0).trans rfl; have hcS1 : w2.cell? ⟨gS, 1, none⟩ = some (.slice (some ⟨gL, 0, none⟩) 6 6) := (blk_cell BKS.out 1).trans rfl; have hcS2 : w2.cell? ⟨gS, 2, none⟩ = some (.slice (some ⟨gT, 0, none⟩) 160 160) := (blk_cell BKS.out 2).trans rfl; have hcR0 : w2.cell? ⟨gR, 0, none⟩ = some (.int .i64 0) := (blk_cell BKR.out 0).trans rfl; have hcR1 : w2.cell? ⟨gR, 1, none⟩ = some (.slice none 0 0) := (blk_cell BKR.out 1).trans rfl; have hcR2 : w2.cell? ⟨gR, 2, none⟩ = some (.slice none 0 0) := (blk_cell BKR.out 2).trans rfl; have hfR0 := blk_frozen BKR.out 0; have hfR1 := blk_frozen BKR.out 1; have hfR2 := blk_frozen BKR.out 2) | (go_at_call 51; refine (impl_setLane.calls_sub k (fun k_ => k_ ≠ gT ∧ k_ ≠ gS ∧ k_ ≠ gR) gL 0 6 6 6 A (kk : Int) (b.size : Int) A' w _ HB.out hgL (by rw [hA]; exact HL.out) (by omega) (by decide) (by rw [List.drop_zero, List.take_of_length_le (by omega)]; exact hA')).mono ?_; rintro e w3 ⟨rfl, hr, hb, hkp⟩; have n1_ := Aside0.mk (KeepBut.blk hkp BKS.out hgLS.symm (by simp)); have n2_ := Aside0.mk (KeepBut.blk hkp BKR.out hgLR.symm (by simp)); have n3_ := Aside0.mk (show Kd.R (Kd.int .u64) 30 w3 w.heap.size (fun k_ => k_ ≠ gT ∧ k_ ≠ gS ∧ k_ ≠ gR) (.slice (some ⟨gL, 0, none⟩) 6 6) A' from by (have e_ : A.take 0 ++ (A' ++ A.drop (0 + 6)) = A' := (by rw [List.drop_eq_nil_of_le (by omega)]; simp); rw [e_, hA] at hr; exact hr)); have n4_ := Aside0.mk (Kd.R_keep HT.out hkp (fun k_ hk_ => hk_.1)); have n5_ := Aside0.mk hb; clear hcS0 hcS1 hcS2 hr hb hkp BKS BKR HL HT HB; have BKS := n1_; have BKR := n2_; have HL := n3_; have HT := n4_; have HB := n5_; clear n1_ n2_ n3_ n4_ n5_))
              have hA2 : A'.length = 6 := ((Kd.R_reads' HL.out).1).symm
              go_loopg [40] b.size (fun gg s40 wi => ∃ (p : Nat) (X : List Int), p ≤ b.size ∧ b.size - p ≤ gg ∧ s40 = .int .i64 p ∧ X.length = 160 ∧ Aside0 (wi.heap[gS]? = some (.cells #[.int .i64 (l0.length : Int), .slice (some ⟨gL, 0, none⟩) 6 6, .slice (some ⟨gT, 0, none⟩) 160 160] 37 (0, 0))) ∧ Aside0 (wi.heap[gR]? = some (.cells #[.int .i64 0, .slice none 0 0, .slice none 0 0] 37 (0, 0))) ∧ Aside0 (Kd.R (Kd.int .u64) 30 wi w.heap.size (fun k_ => k_ ≠ gT ∧ k_ ≠ gS ∧ k_ ≠ gR) (.slice (some ⟨gL, 0, none⟩) 6 6) A') ∧ Aside0 (Kd.R (Kd.int .u64) 30 wi w.heap.size (fun k_ => k_ ≠ gL ∧ k_ ≠ gS ∧ k_ ≠ gR) (.slice (some ⟨gT, 0, none⟩) 160 160) X) ∧ Aside0 (Below w.heap.size w wi) ∧ Aside0 (impl_planesOf.lets k b (kk : Int) (b.size - p) p X = some B'))
              case atStart => exact ⟨0, B, Nat.zero_le _, by omega, rfl, hB', BKS, BKR, HL, HT, HB, HI⟩
              case round =>
                clear BKS BKR HL HT HB HI
                obtain ⟨p, X, hp, hgp, rfl, hXl, BKS, BKR, HL, HT, HB, HI⟩ := hrel
                by_cases hpt : p < b.size
                · have hptz : (p : Int) < (b.size : Int) := by omega
                  have HY := HI.out
                  clear HI
                  rw [show b.size - p = (b.size - (p + 1)) + 1 from by omega] at HY
                  rw [impl_planesOf.lets] at HY
                  by_cases h5 : 5 * p + 5 ≤ X.length
                  · rw [if_pos h5] at HY
                    obtain ⟨r, hr, HY⟩ := Option.bind_eq_some_iff.1 HY
                    have HI := Aside0.mk HY
                    clear HY
                    have HSL := Aside0.mk hr
                    clear hr
                    have e5w : IntKind.i64.wrap (5 * (p : Int)) = 5 * (p : Int) := by rw [IntKind.wrap_i64]; omega
                    have e6w : IntKind.i64.wrap (5 * (p : Int) + 5) = 5 * (p : Int) + 5 := by rw [IntKind.wrap_i64]; omega
                    have hcS2 : wr.cell? ⟨gS, 2, none⟩ = some (.slice (some ⟨gT, 0, none⟩) 160 160) := (blk_cell BKS.out 2).trans rfl
                    go_wp2
                    refine wp_region_still_tail 15 (by kernel_rfl) (by kernel_rfl) ?_
                    simp only [List.take_succ_cons, List.take_zero, List.drop_succ_cons, List.drop_zero]
                    have HBd := Aside0.mk HB.out.drew
                    have HTd := Aside0.mk (Kd.R_drew HT.out)
                    have HLd := Aside0.mk (Kd.R_drew HL.out)
                    have BKSd := Aside0.mk (blk_drew BKS.out)
                    have BKRd := Aside0.mk (blk_drew BKR.out)
                    change wpStill _ _ (World.drew _) (fun a' => wpList _ _ _ _ a' (World.drew _)) _ _
                    generalize World.drew wr = W2 at HBd HTd HLd BKSd BKRd ⊢
                    clear hcS2 HB HT HL BKS BKR
                    have HB := HBd
                    have HT := HTd
                    have HL := HLd
                    have BKS := BKSd
                    have BKR := BKRd
                    clear HBd HTd HLd BKSd BKRd
                    have hcS2 : W2.cell? ⟨gS, 2, none⟩ = some (.slice (some ⟨gT, 0, none⟩) 160 160) := (blk_cell BKS.out 2).trans rfl
                    repeat still_step
                    try simp only [e5w]
                    refine wpStill_step (fun K hK => ?_)
                    go_simp
                    try simp only [e6w]
                    rw [if_pos (show 0 ≤ 5 * (p : Int) + 5 ∧ 5 * (p : Int) + 5 ≤ 160 by omega), if_pos (show 0 ≤ 5 * (p : Int) ∧ 5 * (p : Int) ≤ max (5 * (p : Int) + 5) 0 by omega), if_neg (show ¬ 160 = (5 * (p : Int)).toNat by omega), show (5 * (p : Int) + 5).toNat - (5 * (p : Int)).toNat = 5 from by omega, show (5 * (p : Int)).toNat = 5 * p from by omega]
                    dsimp only
                    refine ⟨rfl, hK _ ?_⟩
                    clear hK K
                    repeat still_step
                    refine wpStill_nil ?_
                    have hsl : impl_setLane.f k ((X.drop (5 * p)).take 5) (kk : Int) (wrap64 (wrap64 (((b[p]'hpt).toNat - 97 : Int) % 256) + 1)) = some r := by
                      have e_ : IntKind.u8.wrap (bt b (p : Int) - 97) = (((b[p]'hpt).toNat - 97 : Int) % 256) := by
                        rw [IntKind.wrap_u8, ← bt_at b (p : Int) (by simpa using hpt)]; rfl
                      rw [← e_]
                      exact HSL.out
                    have HSL2 := Aside0.mk hsl
                    clear hsl HSL
                    go_wp2_with (go_at_call 51; refine (impl_setLane.calls_sub k (fun k_ => k_ ≠ gL ∧ k_ ≠ gS ∧ k_ ≠ gR) gT (5 * p) 5 (160 - 5 * p) 160 X (kk : Int) _ r w _ HB.out hgT (by rw [hXl]; exact HT.out) (by omega) (by decide) HSL2.out).mono ?_; rintro e w3 ⟨rfl, hr, hb, hkp⟩; have n1_ := Aside0.mk (KeepBut.blk hkp BKS.out hgTS.symm (by simp)); have n2_ := Aside0.mk (KeepBut.blk hkp BKR.out hgTR.symm (by simp)); have n3_ := Aside0.mk (show Kd.R (Kd.int .u64) 30 w3 w.heap.size (fun k_ => k_ ≠ gL ∧ k_ ≠ gS ∧ k_ ≠ gR) (.slice (some ⟨gT, 0, none⟩) 160 160) (X.take (5 * p) ++ (r ++ X.drop (5 * p + 5))) from (by rw [hXl] at hr; exact hr)); have n4_ := Aside0.mk (Kd.R_keep HL.out hkp (fun k_ hk_ => hk_.1)); have n5_ := Aside0.mk hb; clear hcS2 hr hb hkp BKS BKR HL HT HB; have BKS := n1_; have BKR := n2_; have HT := n3_; have HL := n4_; have HB := n5_; clear n1_ n2_ n3_ n4_ n5_)
                    have hX2 : (X.take (5 * p) ++ (r ++ X.drop (5 * p + 5))).length = 160 := ((Kd.R_reads' HT.out).1).symm
                    all_goals (go_roundg (b.size - (p + 1)))
                    case measure => omega
                    case rel => exact ⟨p + 1, _, by omega, by omega, by go_num, hX2, BKS, BKR, HL, HT, HB, HI⟩
                  · rw [if_neg h5] at HY
                    exact absurd HY (by simp)
                · have hpe : p = b.size := by omega
                  have hptz : ¬ (p : Int) < (b.size : Int) := by omega
                  have HY := HI.out
                  clear HI
                  rw [show b.size - p = 0 from by omega] at HY
                  obtain rfl : X = B' := Option.some.inj HY
                  clear HY
                  go_wp2
                  all_goals (go_roundg (l0.length - (kk + 1)))
                  case measure => omega
                  case rel => exact ⟨kk + 1, A', X, by omega, by omega, by go_num, hA2, hXl, BKS, BKR, HL, HT, HB, HF⟩
            | false =>
              rw [if_neg (by simp)] at HX
              obtain rfl := Option.some.inj HX
              obtain ⟨rfl, rfl, rfl, rfl⟩ : (0 : Int) = r1 ∧ ([] : List Int) = r2 ∧ ([] : List Int) = r3 ∧ false = r4 := by simpa using HY.out
              clear HX
              go_wp2_with (go_at_call 74; refine (impl_isWord.calls k b false _ ht).mono ?_; rintro e w2 ⟨rfl, hd⟩; have n1_ := Aside0.mk (blk_below BKS.out hd.below); have n2_ := Aside0.mk (blk_below BKR.out hd.below); have n3_ := Aside0.mk (Kd.R_below HL.out hd.below); have n4_ := Aside0.mk (Kd.R_below HT.out hd.below); have n5_ := Aside0.mk (below_step HB.out hd.below); clear hcS0 hcS1 hcS2 hcR0 hcR1 hcR2 hfR0 hfR1 hfR2 hd BKS BKR HL HT HB; have BKS := n1_; have BKR := n2_; have HL := n3_; have HT := n4_; have HB := n5_; clear n1_ n2_ n3_ n4_ n5_; have hcS0 : w2.cell? ⟨gS, 0, none⟩ = some (.int .i64 (l0.length : Int)) := (blk_cell BKS.out 0).trans rfl; have hcS1 : w2.cell? ⟨gS, 1, none⟩ = some (.slice (some ⟨gL, 0, none⟩) 6 6) := (blk_cell BKS.out 1).trans rfl; have hcS2 : w2.cell? ⟨gS, 2, none⟩ = some (.slice (some ⟨gT, 0, none⟩) 160 160) := (blk_cell BKS.out 2).trans rfl; have hcR0 : w2.cell? ⟨gR, 0, none⟩ = some (.int .i64 0) := (blk_cell BKR.out 0).trans rfl; have hcR1 : w2.cell? ⟨gR, 1, none⟩ = some (.slice none 0 0) := (blk_cell BKR.out 1).trans rfl; have hcR2 : w2.cell? ⟨gR, 2, none⟩ = some (.slice none 0 0) := (blk_cell BKR.out 2).trans rfl; have hfR0 := blk_frozen BKR.out 0; have hfR1 := blk_frozen BKR.out 1; have hfR2 := blk_frozen BKR.out 2)
              refine bodyPost_ret (results_ct rfl _ _ gR 37 #[.int .i64 0, .slice none 0 0, .slice none 0 0] (0, 0) _ rfl (by refine blk_put (cs := #[.int .i64 0, .slice none 0 0, .slice none 0 0]) ?_ 2 _ rfl; refine blk_put (cs := #[.int .i64 0, .slice none 0 0, .slice none 0 0]) ?_ 1 _ rfl; refine blk_put (cs := #[.int .i64 0, .slice none 0 0, .slice none 0 0]) ?_ 0 _ rfl; exact BKR.out) Try.underlying37 rfl (by kernel_rfl)) rfl ?_
              exact ⟨_, _, rfl, Kd.R_nil _ _ _ _ _, Kd.R_nil _ _ _ _ _, below_set (below_set (below_set HB.out GR.out) GR.out) GR.out⟩
        · have hltz : ¬ (kk : Int) < (l0.length : Int) := by omega
          have HX := HF.out
          rw [List.drop_eq_nil_of_le (by omega)] at HX
          obtain rfl := Option.some.inj HX
          obtain ⟨rfl, rfl, rfl, rfl⟩ : (l0.length : Int) = r1 ∧ A = r2 ∧ B = r3 ∧ true = r4 := by simpa using HY.out
          clear HX
          have hcS0 : wr.cell? ⟨gS, 0, none⟩ = some (.int .i64 (l0.length : Int)) := (blk_cell BKS.out 0).trans rfl; have hcS1 : wr.cell? ⟨gS, 1, none⟩ = some (.slice (some ⟨gL, 0, none⟩) 6 6) := (blk_cell BKS.out 1).trans rfl; have hcS2 : wr.cell? ⟨gS, 2, none⟩ = some (.slice (some ⟨gT, 0, none⟩) 160 160) := (blk_cell BKS.out 2).trans rfl
          have hcR0 : wr.cell? ⟨gR, 0, none⟩ = some (.int .i64 0) := (blk_cell BKR.out 0).trans rfl; have hcR1 : wr.cell? ⟨gR, 1, none⟩ = some (.slice none 0 0) := (blk_cell BKR.out 1).trans rfl; have hcR2 : wr.cell? ⟨gR, 2, none⟩ = some (.slice none 0 0) := (blk_cell BKR.out 2).trans rfl; have hfR0 := blk_frozen BKR.out 0; have hfR1 := blk_frozen BKR.out 1; have hfR2 := blk_frozen BKR.out 2
          go_wp2
          refine bodyPost_ret (results_ct rfl _ _ gR 37 #[.int .i64 (l0.length : Int), .slice (some ⟨gL, 0, none⟩) 6 6, .slice (some ⟨gT, 0, none⟩) 160 160] (0, 0) _ rfl (by refine blk_put (cs := #[.int .i64 (l0.length : Int), .slice (some ⟨gL, 0, none⟩) 6 6, .slice none 0 0]) ?_ 2 _ rfl; refine blk_put (cs := #[.int .i64 (l0.length : Int), .slice none 0 0, .slice none 0 0]) ?_ 1 _ rfl; refine blk_put (cs := #[.int .i64 0, .slice none 0 0, .slice none 0 0]) ?_ 0 _ rfl; exact BKR.out) Try.underlying37 rfl (by kernel_rfl)) rfl ?_
          have q1 := Kd.R_step HL.out (w1 := ((wr.setCell ⟨gR, 0, none⟩ (.int .i64 (l0.length : Int))).setCell ⟨gR, 1, none⟩ (.slice (some ⟨gL, 0, none⟩) 6 6)).setCell ⟨gR, 2, none⟩ (.slice (some ⟨gT, 0, none⟩) 160 160)) (fun k_ hk_ _ => ((Below.heap_setCell _ _ _ k_ hk_.2.2).trans (Below.heap_setCell _ _ _ k_ hk_.2.2)).trans (Below.heap_setCell _ _ _ k_ hk_.2.2))
          have q2 := Kd.R_step HT.out (w1 := ((wr.setCell ⟨gR, 0, none⟩ (.int .i64 (l0.length : Int))).setCell ⟨gR, 1, none⟩ (.slice (some ⟨gL, 0, none⟩) 6 6)).setCell ⟨gR, 2, none⟩ (.slice (some ⟨gT, 0, none⟩) 160 160)) (fun k_ hk_ _ => ((Below.heap_setCell _ _ _ k_ hk_.2.2).trans (Below.heap_setCell _ _ _ k_ hk_.2.2)).trans (Below.heap_setCell _ _ _ k_ hk_.2.2))
          exact ⟨_, _, rfl, Kd.R_mono q1 (fun k_ hk_ => by (intro e_; exact hk_.1 (by simpa [Value.ownBlock] using e_))), Kd.R_mono q2 (fun k_ hk_ => by (intro e_; exact hk_.1 (by simpa [Value.ownBlock] using e_))), below_set (below_set (below_set HB.out GR.out) GR.out) GR.out⟩

/-! ### impl_PlanesOf: function 20 -/
def impl_PlanesOf.f (k : Nat) (l0 : List ByteArray) : Option (Int × List Int × List Int × Bool) := (impl_planesOf.f k l0).bind fun bt148 => (some (bt148.1, bt148.2.1, bt148.2.2.1, bt148.2.2.2))
theorem impl_PlanesOf.mono : ∀ a0 k, LeO (impl_PlanesOf.f k a0) (impl_PlanesOf.f (k + 1) a0) := by
  intro a0 k
  unfold impl_PlanesOf.f
  repeat' first | (with_reducible exact impl_planesOf.mono _ _) | (with_reducible exact LeO.refl _) | (with_reducible refine LeO.bind ?_ (fun _ => ?_))
set_option maxHeartbeats 8000000 in
set_option maxRecDepth 100000 in
theorem impl_PlanesOf.calls (k : Nat) (A0 : Option Addr) (c0 : Nat) (l0 : List ByteArray) (r1 : Int) (r2 : List Int) (r3 : List Int) (r4 : Bool) (w : World) (hr0 : Kd.C Kd.string w A0 l0.length l0) (hc0 : l0.length ≤ c0) (h : impl_PlanesOf.f k l0 = some (r1, r2, r3, r4)) :
    Calls Try.prog 20 #[.slice A0 l0.length c0] w fun e w' => ∃ v1_ v2_ : Value, e = .returned (.tuple #[.agg #[.int .i64 r1, v1_, v2_], .bool r4]) ∧ Kd.R (Kd.int .u64) 30 w' w.heap.size (fun k_ => some k_ ≠ (v2_ : Value).ownBlock) v1_ r2 ∧ Kd.R (Kd.int .u64) 30 w' w.heap.size (fun k_ => some k_ ≠ (v1_ : Value).ownBlock) v2_ r3 ∧ Below w.heap.size w w' := by
  have hu37 := Try.underlying37
  have HR0 := Aside0.mk hr0
  have HC0 := Aside0.mk hc0
  clear hr0 hc0
  have HB := Aside0.mk (Below.refl w.heap.size w)
  have H : ((impl_planesOf.f k l0).bind fun bt148 => (some (bt148.1, bt148.2.1, bt148.2.2.1, bt148.2.2.2))) = some (r1, r2, r3, r4) := h
  clear h
  replace H := Option.bind_eq_some_iff.mp H
  obtain ⟨⟨t148, t149, t152, t155⟩, A20, H⟩ := H
  replace H : (some (t148, t149, t152, t155)) = some (r1, r2, r3, r4) := H
  have A2 := Aside0.mk A20
  clear A20
  simp only [Option.some.injEq, Prod.mk.injEq] at H
  obtain ⟨rfl, rfl, rfl, rfl⟩ := H
  go_enter Try.func20, Try.ntmps20
  go_wp2_with (first | ((with_reducible refine gate_dst (N := 2) rfl ?_); refine box_event ?hg (N := 2) ?hd (cs := #[.int .i64 0, .slice none 0 0, .slice none 0 0]) (t := 37) ?hr ?_; (case hd => rfl); (case hg => rfl); (case hr => (go_simp; done)); intro gb147 hg w3 hbox hb; have n0_ := Aside0.mk (below_step (by repeat ((with_reducible exact HB.out))) hb); have n1_ := Aside0.mk (hbox); have n2_ := Aside0.mk ((by rw [hg]; exact (below_size (by repeat ((with_reducible exact HB.out)))) : w.heap.size ≤ gb147)); have n3_ := Aside0.mk ((by rw [hg]; exact (below_size (by repeat ((with_reducible exact HB.out)))) : w.heap.size ≤ gb147)); clear HB; have HB := n0_; have BK147 := n1_; have GW147 := n2_; have GE147 := n3_; clear n0_ n1_ n2_ n3_; clear hb hbox hg) | ((with_reducible refine gate_callee (f := 57) rfl ?_); refine goesL_ (some 5) rfl rfl Try.func57 (by kernel_rfl) rfl #[.slice A0 l0.length c0] rfl (by (try simp only [List.map_toArray, List.map_cons, List.map_nil]); rfl) ?_; (with_reducible refine (impl_planesOf.calls k _ _ l0 t148 t149 t152 t155 _ ?side1 ?side2 A2.out).mono ?_); (case side1 => repeat (exact (Kd.C_below HR0.out HB.out))); (case side2 => exact HC0.out); rintro e w4 ⟨v150, v153, rfl, ho0, ho1, hb⟩; refine ⟨_, rfl, ?_⟩; have n0_ := Aside0.mk (Kd.R_lower ho0 (below_size (by repeat ((with_reducible exact HB.out))))); have n1_ := Aside0.mk (Kd.R_lower ho1 (below_size (by repeat ((with_reducible exact HB.out))))); have n2_ := Aside0.mk (blk_below (g := gb147) (o := .cells #[.int .i64 0, .slice none 0 0, .slice none 0 0] 37 (0, 0)) (by (with_reducible repeat (first | refine blk_drewN ?_ _ | refine blk_drew ?_ | refine blk_alloc ?_ _)); exact BK147.out) hb); have n3_ := Aside0.mk (below_step (by repeat ((with_reducible exact HB.out))) hb); clear BK147; clear HB; have HO151 := n0_; have HO154 := n1_; have BK147 := n2_; have HB := n3_; clear n0_ n1_ n2_ n3_; (try clear hb); (try clear hb2); (try clear hk); (try clear hi); (try clear ho0); (try clear ho1); have hcz5_0 : w4.cell? ⟨gb147, 0, none⟩ = some (.int .i64 0) := (blk_cell BK147.out 0).trans rfl; have hcz5_1 : w4.cell? ⟨gb147, 1, none⟩ = some (.slice none 0 0) := (blk_cell BK147.out 1).trans rfl; have hcz5_2 : w4.cell? ⟨gb147, 2, none⟩ = some (.slice none 0 0) := (blk_cell BK147.out 2).trans rfl; have hfz5_0 := blk_frozen BK147.out 0; have hfz5_1 := blk_frozen BK147.out 1; have hfz5_2 := blk_frozen BK147.out 2; obtain ⟨Ao6, co6, eo6⟩ := Kd.R_slice HO151.out; subst eo6; obtain ⟨Ao7, co7, eo7⟩ := Kd.R_slice HO154.out; subst eo7))
  refine bodyPost_ret (results_ct rfl _ _ gb147 37 #[.int .i64 t148, .slice Ao6 t149.length co6, .slice Ao7 t152.length co7] (0, 0) _ rfl (by (with_reducible repeat (first | refine blk_drewN ?_ _ | refine blk_drew ?_ | refine blk_alloc ?_ _)); refine blk_put (cs := #[.int .i64 t148, .slice Ao6 t149.length co6, .slice none 0 0]) ?_ 2 _ rfl; (with_reducible repeat (first | refine blk_drewN ?_ _ | refine blk_drew ?_ | refine blk_alloc ?_ _)); refine blk_put (cs := #[.int .i64 t148, .slice none 0 0, .slice none 0 0]) ?_ 1 _ rfl; (with_reducible repeat (first | refine blk_drewN ?_ _ | refine blk_drew ?_ | refine blk_alloc ?_ _)); refine blk_put (cs := #[.int .i64 0, .slice none 0 0, .slice none 0 0]) ?_ 0 _ rfl; (with_reducible repeat (first | refine blk_drewN ?_ _ | refine blk_drew ?_ | refine blk_alloc ?_ _)); exact BK147.out) Try.underlying37 rfl (by kernel_rfl)) rfl ?_
  exact ⟨_, _, by rfl, by (with_reducible repeat (first | apply Kd.R_alloc | apply Kd.R_drewN | apply Kd.R_drew)); exact Kd.R_mono (Kd.R_far (p := ⟨gb147, 2, none⟩) (Kd.R_far (p := ⟨gb147, 1, none⟩) (Kd.R_far (p := ⟨gb147, 0, none⟩) (Kd.R_types HO151.out BK147.out (by decide)) (fun _ hk => by exact hk.2) (.int .i64 t148)) (fun _ hk => by exact hk.2) (.slice Ao6 t149.length co6)) (fun _ hk => by exact hk.2) (.slice Ao7 t152.length co7)) (fun _ hk => by exact hk.1), by (with_reducible repeat (first | apply Kd.R_alloc | apply Kd.R_drewN | apply Kd.R_drew)); exact Kd.R_mono (Kd.R_far (p := ⟨gb147, 2, none⟩) (Kd.R_far (p := ⟨gb147, 1, none⟩) (Kd.R_far (p := ⟨gb147, 0, none⟩) (Kd.R_types HO154.out BK147.out (by decide)) (fun _ hk => by exact hk.2) (.int .i64 t148)) (fun _ hk => by exact hk.2) (.slice Ao6 t149.length co6)) (fun _ hk => by exact hk.2) (.slice Ao7 t152.length co7)) (fun _ hk => by exact hk.1), by repeat ((with_reducible first | exact HB.out | refine below_set ?_ GE147.out))⟩

end Go.Proofs.Ytljmhhadclgegaa.PFnBatch

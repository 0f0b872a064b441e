-- Laid by a program of this session: what the print of the kit writes, and contracts of the session where the print takes no function. Lean checks it.
import Derived.Test.YtccoipncjfgbeaaPFnLeavesCoverx0
import Derived.Test.YtccoipncjfgbeaaPFnLeavesCoverx1
import Derived.Test.YtccoipncjfgbeaaPFnLeavesCoverx2
namespace Go.Proofs.Ytccoipncjfgbeaa.PFnLeavesCover
open Go.RowKit Go.Proofs.YtccoipncjfgbeaaW.PrintWords Go.Proofs.YtccoipncjfgbeaaW.PrintLast Go.Proofs.YtccoipncjfgbeaaW.PrintMore
attribute [local go_sem] max2_int min2_int max_two min_two max_three min_three max_four min_four   -- for this text's walks alone
set_option linter.unusedVariables false
set_option linter.unusedSimpArgs false

/-! ### spec_DrawNodeLeaves: function 33 -/
def spec_DrawNodeLeaves.f (k : Nat) (l0 : List Int) : Option (Int × Int) := (spec_l01Open.f l0).bind fun bt178 => ((spec_l01Cur_log.f bt178.1 bt178.2.1 bt178.2.2).bind fun bt182 => ((spec_TreeNodes.f k bt182.1).bind fun t185 => ((spec_l01Cur_pick.f bt178.1 bt182.2.1 bt182.2.2 (mx 1 t185)).bind fun bt186 => ((spec_l01Cur_raw.f bt178.1 bt186.2.1 bt186.2.2).bind fun bt189 => ((some (([wrap64 (1 + bt186.1), mx 1 t185, wrap64 ((mx 1 t185) + 1), bt189.1] : List Int) : List Int)).bind fun y192 => ((spec_l01Cur_pick.f bt178.1 bt189.2.1 bt189.2.2 4).bind fun bt195 => (if 0 ≤ bt195.1 then (if bt195.1 < (y192.length : Int) then (some (bt182.1, rd y192 bt195.1)) else (none)) else (none))))))))
theorem spec_DrawNodeLeaves.mono : ∀ a0 k, LeO (spec_DrawNodeLeaves.f k a0) (spec_DrawNodeLeaves.f (k + 1) a0) := by
  intro a0 k
  unfold spec_DrawNodeLeaves.f
  repeat' first
      | (with_reducible exact spec_TreeNodes.mono _ _)
      | (with_reducible exact LeO.refl _)
      | (with_reducible exact LeO.none _)
      | (with_reducible refine LeO.ite ?_ ?_)
      | (with_reducible refine LeO.bind ?_ (fun _ => ?_))
      | exact spec_TreeNodes.mono _ _
      | exact LeO.none _
      | refine LeO.ite ?_ ?_
      | refine LeO.bind ?_ (fun _ => ?_)
def spec_DrawNodeLeaves.T4 : Bool × List (List Nat × List Nat) := (true, [([], []), ([], []), ([], []), ([1, 2], [1, 2]), ([3], [3]), ([], []), ([], []), ([6], [6]), ([], []), ([8, 3], [8]), ([4, 5, 7, 9], [4, 5, 7, 9]), ([], []), ([11, 9], [11]), ([10, 12], [10, 12]), ([13], [13]), ([0, 12, 0], [0]), ([14, 15, 0, 1, 2, 3, 4, 5, 6, 7, 8, 9, 10, 11, 12, 13, 14, 15], [14])])
def spec_DrawNodeLeaves.B4 : List Nat := [0, 0, 0, 6, 14, 0, 0, 64, 0, 270, 1022, 0, 2830, 8190, 16382, 6927, 65535]
theorem spec_DrawNodeLeaves.tab4 : rtab .any (opsOf Try.f33 4) = spec_DrawNodeLeaves.T4 := by kernel_rfl
theorem spec_DrawNodeLeaves.bits4 : waitsOk spec_DrawNodeLeaves.T4.2 spec_DrawNodeLeaves.B4 = true := by kernel_rfl
set_option maxHeartbeats 8000000 in
set_option maxRecDepth 100000 in
theorem spec_DrawNodeLeaves.calls (k : Nat) (A0 : Option Addr) (c0 : Nat) (l0 : List Int) (r1 : Int) (r2 : Int) (w : World) (hr0 : Kd.C (Kd.int .u8) w A0 l0.length l0) (hc0 : l0.length ≤ c0) (h : spec_DrawNodeLeaves.f k l0 = some (r1, r2)) :
    Calls Try.prog 33 #[.slice A0 l0.length c0] w fun e w' => e = .returned (.tuple #[.int .i64 r1, .int .i64 r2]) ∧ Below w.heap.size w w' := by
  have HR0 := Aside0.mk hr0
  have HC0 := Aside0.mk hc0
  clear hr0 hc0
  have HB := Aside0.mk (Below.refl w.heap.size w)
  have H : ((spec_l01Open.f l0).bind fun bt178 => ((spec_l01Cur_log.f bt178.1 bt178.2.1 bt178.2.2).bind fun bt182 => ((spec_TreeNodes.f k bt182.1).bind fun t185 => ((spec_l01Cur_pick.f bt178.1 bt182.2.1 bt182.2.2 (mx 1 t185)).bind fun bt186 => ((spec_l01Cur_raw.f bt178.1 bt186.2.1 bt186.2.2).bind fun bt189 => ((some (([wrap64 (1 + bt186.1), mx 1 t185, wrap64 ((mx 1 t185) + 1), bt189.1] : List Int) : List Int)).bind fun y192 => ((spec_l01Cur_pick.f bt178.1 bt189.2.1 bt189.2.2 4).bind fun bt195 => (if 0 ≤ bt195.1 then (if bt195.1 < (y192.length : Int) then (some (bt182.1, rd y192 bt195.1)) else (none)) else (none))))))))) = some (r1, r2) := h
  clear h
  replace H := Option.bind_eq_some_iff.mp H
  obtain ⟨⟨t178, t179, t180⟩, A20, H⟩ := H
  replace H : ((spec_l01Cur_log.f t178 t179 t180).bind fun bt182 => ((spec_TreeNodes.f k bt182.1).bind fun t185 => ((spec_l01Cur_pick.f t178 bt182.2.1 bt182.2.2 (mx 1 t185)).bind fun bt186 => ((spec_l01Cur_raw.f t178 bt186.2.1 bt186.2.2).bind fun bt189 => ((some (([wrap64 (1 + bt186.1), mx 1 t185, wrap64 ((mx 1 t185) + 1), bt189.1] : List Int) : List Int)).bind fun y192 => ((spec_l01Cur_pick.f t178 bt189.2.1 bt189.2.2 4).bind fun bt195 => (if 0 ≤ bt195.1 then (if bt195.1 < (y192.length : Int) then (some (bt182.1, rd y192 bt195.1)) else (none)) else (none)))))))) = some (r1, r2) := H
  have A2 := Aside0.mk A20
  clear A20
  replace H := Option.bind_eq_some_iff.mp H
  obtain ⟨⟨t182, t183, t184⟩, A30, H⟩ := H
  replace H : ((spec_TreeNodes.f k t182).bind fun t185 => ((spec_l01Cur_pick.f t178 t183 t184 (mx 1 t185)).bind fun bt186 => ((spec_l01Cur_raw.f t178 bt186.2.1 bt186.2.2).bind fun bt189 => ((some (([wrap64 (1 + bt186.1), mx 1 t185, wrap64 ((mx 1 t185) + 1), bt189.1] : List Int) : List Int)).bind fun y192 => ((spec_l01Cur_pick.f t178 bt189.2.1 bt189.2.2 4).bind fun bt195 => (if 0 ≤ bt195.1 then (if bt195.1 < (y192.length : Int) then (some (t182, rd y192 bt195.1)) else (none)) else (none))))))) = some (r1, r2) := H
  have A3 := Aside0.mk A30
  clear A30
  replace H := Option.bind_eq_some_iff.mp H
  obtain ⟨t185, A40, H⟩ := H
  replace H : ((spec_l01Cur_pick.f t178 t183 t184 (mx 1 t185)).bind fun bt186 => ((spec_l01Cur_raw.f t178 bt186.2.1 bt186.2.2).bind fun bt189 => ((some (([wrap64 (1 + bt186.1), mx 1 t185, wrap64 ((mx 1 t185) + 1), bt189.1] : List Int) : List Int)).bind fun y192 => ((spec_l01Cur_pick.f t178 bt189.2.1 bt189.2.2 4).bind fun bt195 => (if 0 ≤ bt195.1 then (if bt195.1 < (y192.length : Int) then (some (t182, rd y192 bt195.1)) else (none)) else (none)))))) = some (r1, r2) := H
  have A4 := Aside0.mk A40
  clear A40
  obtain ⟨ji5, hji5⟩ : ∃ j_ : Int, (mx 1 t185) = j_ := ⟨_, rfl⟩
  replace H : ((spec_l01Cur_pick.f t178 t183 t184 (ji5)).bind fun bt186 => ((spec_l01Cur_raw.f t178 bt186.2.1 bt186.2.2).bind fun bt189 => ((some (([wrap64 (1 + bt186.1), ji5, wrap64 ((ji5) + 1), bt189.1] : List Int) : List Int)).bind fun y192 => ((spec_l01Cur_pick.f t178 bt189.2.1 bt189.2.2 4).bind fun bt195 => (if 0 ≤ bt195.1 then (if bt195.1 < (y192.length : Int) then (some (t182, rd y192 bt195.1)) else (none)) else (none)))))) = some (r1, r2) := by first | (rw [hji5] at H; exact H) | (simp only [hji5] at H ⊢; exact H)
  (try rw [hji5] at A2)
  (try rw [hji5] at A3)
  (try rw [hji5] at A4)
  (try (have hji5l : 1 ≤ ji5 := by (rw [← hji5]; unfold mx; (repeat' split) <;> omega)))
  (try (have hji5m : 0 ≤ ji5 := by omega))
  have hji5_ : (if 1 < t185 then t185 else 1) = ji5 := hji5
  replace H := Option.bind_eq_some_iff.mp H
  obtain ⟨⟨t186, t187, t188⟩, A60, H⟩ := H
  replace H : ((spec_l01Cur_raw.f t178 t187 t188).bind fun bt189 => ((some (([wrap64 (1 + t186), ji5, wrap64 ((ji5) + 1), bt189.1] : List Int) : List Int)).bind fun y192 => ((spec_l01Cur_pick.f t178 bt189.2.1 bt189.2.2 4).bind fun bt195 => (if 0 ≤ bt195.1 then (if bt195.1 < (y192.length : Int) then (some (t182, rd y192 bt195.1)) else (none)) else (none))))) = some (r1, r2) := H
  have A6 := Aside0.mk A60
  clear A60
  replace H := Option.bind_eq_some_iff.mp H
  obtain ⟨⟨t189, t190, t191⟩, A70, H⟩ := H
  replace H : ((some (([wrap64 (1 + t186), ji5, wrap64 ((ji5) + 1), t189] : List Int) : List Int)).bind fun y192 => ((spec_l01Cur_pick.f t178 t190 t191 4).bind fun bt195 => (if 0 ≤ bt195.1 then (if bt195.1 < (y192.length : Int) then (some (t182, rd y192 bt195.1)) else (none)) else (none)))) = some (r1, r2) := H
  have A7 := Aside0.mk A70
  clear A70
  obtain ⟨y192, hy192⟩ : ∃ y_ : List Int, y_ = (([wrap64 (1 + t186), ji5, wrap64 ((ji5) + 1), t189] : List Int)) := ⟨_, rfl⟩
  replace H : ((spec_l01Cur_pick.f t178 t190 t191 4).bind fun bt195 => (if 0 ≤ bt195.1 then (if bt195.1 < (y192.length : Int) then (some (t182, rd y192 bt195.1)) else (none)) else (none))) = some (r1, r2) := by first | (rw [hy192]; with_reducible exact H) | (have H2_ := (Option.bind_some _ _).symm.trans H; rw [hy192]; with_reducible exact H2_) | (have H2_ := (Option.bind_some _ _).symm.trans H; with_reducible exact H2_) | with_reducible exact H | (rw [hy192]; exact H) | exact H
  have Ny192 := Aside0.mk hy192
  clear hy192
  replace H := Option.bind_eq_some_iff.mp H
  obtain ⟨⟨t195, t196, t197⟩, A80, H⟩ := H
  replace H : (if 0 ≤ t195 then (if t195 < (y192.length : Int) then (some (t182, rd y192 t195)) else (none)) else (none)) = some (r1, r2) := H
  have A8 := Aside0.mk A80
  clear A80
  by_cases c9 : 0 ≤ t195
  · rw [if_pos c9] at H
    have c9b0 : decide (0 ≤ t195) = true := decide_eq_true c9
    clear c9
    by_cases c10 : t195 < (y192.length : Int)
    · rw [if_pos c10] at H
      have c10b0 : decide (t195 < (y192.length : Int)) = true := decide_eq_true c10
      clear c10
      simp only [Option.some.injEq, Prod.mk.injEq] at H
      obtain ⟨rfl, rfl⟩ := H
      go_enter Try.func33, Try.ntmps33
      try go_wp2_with (first | ((with_reducible refine gate_callee (f := 48) rfl ?_); refine goesL_ (some 8) rfl rfl Try.func48 (by kernel_rfl) rfl #[.slice A0 l0.length c0] rfl (by (try simp only [List.map_toArray, List.map_cons, List.map_nil]); first | done | rfl | (simp only [List.length_drop, List.length_take]; rfl)) ?_; (with_reducible refine (spec_l01Open.calls _ _ l0 t178 t179 t180 w _ ?side1 ?side2 ?side3 A2.out).mono ?_); (case side1 => repeat (first | (with_reducible first | exact HB.out | apply below_alloc | apply pw_below_drewN | apply below_drew1) | exact HB.out)); (case side2 => exact HR0.out); (case side3 => exact HC0.out); rintro e w11 ⟨g181, rfl, hi, hb, hb2⟩; refine ⟨_, rfl, ?_⟩; have n0_ := Aside0.mk (hb); have n1_ := Aside0.mk (hi); clear HB; have HB := n0_; have HI181 := n1_; clear n0_ n1_; (try clear hb); (try clear hb2); (try clear hk); (try clear hi)) | ((with_reducible refine gate_callee (f := 49) rfl ?_); refine goesL_ (some 10) rfl rfl Try.func49 (by kernel_rfl) rfl #[.pointer (some ⟨g181, 0, none⟩)] rfl (by (try simp only [List.map_toArray, List.map_cons, List.map_nil]); first | done | rfl | (simp only [List.length_drop, List.length_take]; rfl)) ?_; (with_reducible refine (spec_l01Cur_log.calls g181 t178 t179 t180 t182 t183 t184 w _ ?side1 ?side2 A3.out).mono ?_); (case side1 => repeat (first | (with_reducible first | exact HI181.out | apply IsS48.alloc | apply IsS48.drewN | apply IsS48.drew | apply IsS48.set_1 | apply IsS48.set_2) | exact HI181.out)); (case side2 => repeat (first | (with_reducible first | exact HB.out | apply below_alloc | apply pw_below_drewN | apply below_drew1 | refine below_set ?_ (IsS48.ge HI181.out)) | exact HB.out)); rintro e w12 ⟨rfl, hi, hb, hk⟩; refine ⟨_, rfl, ?_⟩; have n0_ := Aside0.mk (hb); have n1_ := Aside0.mk (hi); clear HB; clear HI181; have HB := n0_; have HI181 := n1_; clear n0_ n1_; (try clear hb); (try clear hb2); (try clear hk); (try clear hi)) | ((with_reducible refine gate_callee (f := 15) rfl ?_); refine goesL_ (some 12) rfl rfl Try.func15 (by kernel_rfl) rfl #[.int .i64 t182] rfl (by (try simp only [List.map_toArray, List.map_cons, List.map_nil]); first | done | rfl | (simp only [List.length_drop, List.length_take]; rfl)) ?_; (with_reducible refine (spec_TreeNodes.calls k t182 t185 _ A4.out).mono ?_); rintro e w' ⟨rfl, ⟨nd, rfl⟩⟩; refine ⟨_, rfl, ?_⟩))
      have pi198 : (0 ≤ (t195 : Int)) = True := eq_true (of_decide_eq_true (by first | (with_reducible assumption) | assumption))
      have qi198 : (t195 < (y192.length : Int)) = True := eq_true (of_decide_eq_true (by first | (with_reducible assumption) | assumption))
      (try (rw [drewN_self w12]; generalize hq_ : World.drewN w12 _ = w12; have n0_ : Aside0 (IsS48 w w12 g181 t178 t183 t184) := ⟨by rw [← hq_]; exact (by repeat (first | (with_reducible first | exact HI181.out | apply IsS48.alloc | apply IsS48.drewN | apply IsS48.drew | apply IsS48.set_1 | apply IsS48.set_2) | exact HI181.out))⟩; have n1_ : Aside0 (Below w.heap.size w w12) := ⟨by rw [← hq_]; exact (by repeat (first | (with_reducible first | exact HB.out | apply below_alloc | apply pw_below_drewN | apply below_drew1 | refine below_set ?_ (IsS48.ge HI181.out)) | exact HB.out))⟩; clear HI181 HB hq_; have HI181 := n0_; have HB := n1_; clear n0_ n1_))
      have n0_ := Aside0.mk (IsS48.drew HI181.out)
      have n1_ := Aside0.mk (below_drew1 HB.out)
      clear HI181
      clear HB
      have HI181 := n0_
      have HB := n1_
      clear n0_ n1_
      refine start_ (n := 17) (S := fun w' => True) (ds := []) #[false, false, false, false, false, false, false, false, false, false, false, false, false, false, false, false, false] (by kernel_rfl) rfl rfl trivial (fun hHeld => ?_); refine with_tabW spec_DrawNodeLeaves.tab4 spec_DrawNodeLeaves.bits4 (fun HT_ HW_ => ?_)
      generalize w12.drew = w13 at HI181 HB hHeld ⊢
      refine pure_ (i := 0) (N := some 14) (v := ?_) (a' := ?_) #[true, false, false, false, false, false, false, false, false, false, false, false, false, false, false, false, false] rfl rfl (any_of HT_.out (by kernel_rfl)) (fun _ _ _ h => h) (Or.inl ⟨by rfl, ?_⟩) ?_ ?_
      rotate_left
      · intro w'
        go_simp
        with_reducible rfl
      rotate_left
      · simp only [Act.put, List.setIfInBounds_toArray, List.set_cons_zero, List.set_cons_succ, i64_w, i32_w]
        rfl
      refine pure_ (i := 1) (N := some 15) (v := ?_) (a' := ?_) #[true, true, false, false, false, false, false, false, false, false, false, false, false, false, false, false, false] rfl rfl (any_of HT_.out (by kernel_rfl)) (fun _ _ _ h => h) (Or.inl ⟨by rfl, ?_⟩) ?_ ?_
      rotate_left
      · intro w'
        go_simp
        with_reducible rfl
      rotate_left
      · simp only [Act.put, List.setIfInBounds_toArray, List.set_cons_zero, List.set_cons_succ, i64_w, i32_w]
        rfl
      refine pure_ (i := 2) (N := some 16) (v := ?_) (a' := ?_) #[true, true, true, false, false, false, false, false, false, false, false, false, false, false, false, false, false] rfl rfl (any_of HT_.out (by kernel_rfl)) (fun _ _ _ h => h) (Or.inl ⟨by rfl, ?_⟩) ?_ ?_
      rotate_left
      · intro w'
        go_simp
        with_reducible rfl
      rotate_left
      · simp only [Act.put, List.setIfInBounds_toArray, List.set_cons_zero, List.set_cons_succ, i64_w, i32_w]
        rfl
      refine pure_ (i := 5) (N := some 19) (v := ?_) (a' := ?_) #[true, true, true, false, false, true, false, false, false, false, false, false, false, false, false, false, false] rfl rfl (any_of HT_.out (by kernel_rfl)) (fun _ _ _ h => h) (Or.inl ⟨by rfl, ?_⟩) ?_ ?_
      rotate_left
      · intro w'
        go_simp
        with_reducible rfl
      rotate_left
      · simp only [Act.put, List.setIfInBounds_toArray, List.set_cons_zero, List.set_cons_succ, i64_w, i32_w]
        rfl
      refine pure_ (i := 6) (N := some 20) (v := ?_) (a' := ?_) #[true, true, true, false, false, true, true, false, false, false, false, false, false, false, false, false, false] rfl rfl (any_of HT_.out (by kernel_rfl)) (fun _ _ _ h => h) (Or.inl ⟨by rfl, ?_⟩) ?_ ?_
      rotate_left
      · intro w'
        go_simp
        with_reducible rfl
      rotate_left
      · simp only [Act.put, List.setIfInBounds_toArray, List.set_cons_zero, List.set_cons_succ, i64_w, i32_w]
        rfl
      refine pure_ (i := 8) (N := some 22) (v := ?_) (a' := ?_) #[true, true, true, false, false, true, true, false, true, false, false, false, false, false, false, false, false] rfl rfl (any_of HT_.out (by kernel_rfl)) (fun _ _ _ h => h) (Or.inl ⟨by rfl, ?_⟩) ?_ ?_
      rotate_left
      · intro w'
        go_simp
        with_reducible rfl
      rotate_left
      · simp only [Act.put, List.setIfInBounds_toArray, List.set_cons_zero, List.set_cons_succ, i64_w, i32_w]
        rfl
      refine pure_ (i := 11) (N := some 25) (v := ?_) (a' := ?_) #[true, true, true, false, false, true, true, false, true, false, false, true, false, false, false, false, false] rfl rfl (any_of HT_.out (by kernel_rfl)) (fun _ _ _ h => h) (Or.inl ⟨by rfl, ?_⟩) ?_ ?_
      rotate_left
      · intro w'
        go_simp
        with_reducible rfl
      rotate_left
      · simp only [Act.put, List.setIfInBounds_toArray, List.set_cons_zero, List.set_cons_succ, i64_w, i32_w]
        rfl
      refine inv_at [3, 4, 7, 9, 10, 12, 13, 14, 15, 16] (fun a0_ b a w' => ∃ (v193 : Value) (adz_v193 : Addr) (m13_ : Value), a = putSel a0_ b [(3, 17, .int .i64 t186), (4, 18, .int .i64 (wrap64 (1 + t186))), (7, 21, .int .i64 (wrap64 ((ji5) + 1))), (9, 23, .int .i64 t189), (10, 24, v193), (12, 26, .int .i64 t195), (13, 27, m13_), (14, 28, .int .i64 (rd y192 t195)), (15, 2, .int .i64 t182), (16, 3, .int .i64 (rd y192 t195))] ∧ (b 3 = false → IsS48 w w' g181 t178 t183 t184) ∧ (Below w.heap.size w w') ∧ (b 3 = true → b 9 = false → IsS48 w w' g181 t178 t187 t188) ∧ (b 9 = true → b 12 = false → IsS48 w w' g181 t178 t190 t191) ∧ (b 10 = true → Kd.R (Kd.int .i64) 3 w' w.heap.size (fun _ => True) v193 y192) ∧ (b 10 = true → ∃ c_, (v193 : Value) = .slice (some adz_v193) y192.length c_) ∧ (b 12 = true → IsS48 w w' g181 t178 t196 t197) ∧ (b 13 = true → (m13_ : Value) = .pointer (some (adz_v193.add (t195).toNat)))) HT_.out HW_.out (by kernel_rfl) (by kernel_rfl) ?_ ?_ ?_
      · exact ⟨.bool false, ⟨0, 0, none⟩, .bool false, by simp only [putSel, Bool.false_eq_true, if_false], fun _ => HI181.out, HB.out, fun h_ => absurd h_ (by decide), fun h_ => absurd h_ (by decide), fun h_ => absurd h_ (by decide), fun h_ => absurd h_ (by decide), fun h_ => absurd h_ (by decide), fun h_ => absurd h_ (by decide)⟩
      · skip
        clear HB HI181
        refine steps_cons ?_ ?_
        · rintro b a w' ⟨v193, adz_v193, m13_, ha, Q_HI181, Q_HB, Q_HI181_e3, Q_HI181_e9, Q_HO194, Q_HA_HO194, Q_HI181_e12, Q_X13_⟩ hb_ hon hoff
          refine ⟨_, rfl, fun K hK => ?_⟩
          have e15 : a.tmps[15]? = some (.pointer (some ⟨g181, 0, none⟩)) := by rw [ha]; exact (putSel_off rfl).trans rfl
          have e16 : a.tmps[16]? = some (.int .i64 ji5) := by rw [ha]; exact (putSel_off rfl).trans rfl
          replace ha := Aside0.mk ha
          have HI181 := Aside0.mk (Q_HI181 hb_)
          have HB := Aside0.mk Q_HB
          refine goes_ Try.func50 (by kernel_rfl) rfl #[.pointer (some ⟨g181, 0, none⟩), .int .i64 ji5] (by rfl) rfl rfl (by (try simp only [List.map_toArray, List.map_cons, List.map_nil]); first | done | (simp [Act.eval, Array.getD_eq_getD_getElem?, e15, e16]; done) | (simp only [hji5]; rfl) | rfl | (simp only [List.length_drop, List.length_take]; rfl)) ?_
          with_reducible refine (spec_l01Cur_pick.calls g181 t178 t183 t184 ji5 t186 t187 t188 w _ ?side1 ?side2 A6.out).mono ?_
          (case side1 => repeat (first | (with_reducible first | exact HI181.out | apply IsS48.alloc | apply IsS48.drewN | apply IsS48.drew | apply IsS48.set_1 | apply IsS48.set_2) | exact HI181.out))
          (case side2 => repeat (first | (with_reducible first | exact HB.out | apply below_alloc | apply pw_below_drewN | apply below_drew1 | refine below_set ?_ (IsS48.ge HI181.out)) | exact HB.out))
          rintro e w14 ⟨rfl, hi, hb, hk⟩
          refine ⟨_, rfl, ?_⟩
          have n0_ := Aside0.mk (hb)
          have n1_ := Aside0.mk (hi)
          clear HB
          clear HI181
          have HB := n0_
          have HI181 := n1_
          clear n0_ n1_
          (try clear hb)
          (try clear hb2)
          (try clear hk)
          (try clear hi)
          refine hK.out _ _ ⟨v193, adz_v193, m13_, (by rw [ha.out]; exact putSel_upk 0 hb_ rfl rfl rfl), fun h0_ => absurd ((up_self b 3).symm.trans h0_) (by decide), (by repeat (first | (with_reducible first | exact HB.out | apply below_alloc | apply pw_below_drewN | apply below_drew1 | refine below_set ?_ (IsS48.ge HI181.out)) | exact HB.out)), fun _ _ => (by repeat (first | (with_reducible first | exact HI181.out | apply IsS48.alloc | apply IsS48.drewN | apply IsS48.drew | apply IsS48.set_1 | apply IsS48.set_2) | exact HI181.out)), fun h0_ _ => absurd ((hoff 9 (by kernel_rfl)).symm.trans h0_) (by decide), fun h0_ => absurd ((hoff 10 (by kernel_rfl)).symm.trans h0_) (by decide), fun h0_ => absurd ((hoff 10 (by kernel_rfl)).symm.trans h0_) (by decide), fun h0_ => absurd ((hoff 12 (by kernel_rfl)).symm.trans h0_) (by decide), fun h0_ => absurd ((hoff 13 (by kernel_rfl)).symm.trans h0_) (by decide)⟩
        refine steps_cons ?_ ?_
        · rintro b a w' ⟨v193, adz_v193, m13_, ha, Q_HI181, Q_HB, Q_HI181_e3, Q_HI181_e9, Q_HO194, Q_HA_HO194, Q_HI181_e12, Q_X13_⟩ hb_ hon hoff
          refine ⟨_, rfl, fun K hK => ?_⟩
          have e17 : a.tmps[17]? = some (.int .i64 t186) := by rw [ha]; exact putSel_on (e := (3, 17, .int .i64 t186)) 0 rfl rfl (hon 3 (by kernel_rfl)) rfl
          replace ha := Aside0.mk ha
          have HB := Aside0.mk Q_HB
          refine value_ (w1 := w') (v := .int .i64 (wrap64 (1 + t186))) (by rfl) rfl ?_ ?_
          · go_simp
            (try simp only [i64_w])
            try rfl
          refine hK.out _ _ ⟨v193, adz_v193, m13_, (by rw [ha.out]; exact putSel_upk 1 hb_ rfl rfl rfl), fun h0_ => absurd ((hon 3 (by kernel_rfl)).symm.trans h0_) (by decide), Q_HB, Q_HI181_e3, Q_HI181_e9, fun h0_ => absurd ((hoff 10 (by kernel_rfl)).symm.trans h0_) (by decide), fun h0_ => absurd ((hoff 10 (by kernel_rfl)).symm.trans h0_) (by decide), Q_HI181_e12, fun h0_ => absurd ((hoff 13 (by kernel_rfl)).symm.trans h0_) (by decide)⟩
        refine steps_cons ?_ ?_
        · rintro b a w' ⟨v193, adz_v193, m13_, ha, Q_HI181, Q_HB, Q_HI181_e3, Q_HI181_e9, Q_HO194, Q_HA_HO194, Q_HI181_e12, Q_X13_⟩ hb_ hon hoff
          refine ⟨_, rfl, fun K hK => ?_⟩
          have e20 : a.tmps[20]? = some (.int .i64 ji5) := by rw [ha]; exact (putSel_off rfl).trans rfl
          replace ha := Aside0.mk ha
          have HB := Aside0.mk Q_HB
          refine value_ (w1 := w') (v := .int .i64 (wrap64 ((ji5) + 1))) (by rfl) rfl ?_ ?_
          · go_simp
            (try simp only [i64_w])
            try rfl
          refine hK.out _ _ ⟨v193, adz_v193, m13_, (by rw [ha.out]; exact putSel_upk 2 hb_ rfl rfl rfl), Q_HI181, Q_HB, Q_HI181_e3, Q_HI181_e9, fun h0_ => absurd ((hoff 10 (by kernel_rfl)).symm.trans h0_) (by decide), fun h0_ => absurd ((hoff 10 (by kernel_rfl)).symm.trans h0_) (by decide), Q_HI181_e12, fun h0_ => absurd ((hoff 13 (by kernel_rfl)).symm.trans h0_) (by decide)⟩
        refine steps_cons ?_ ?_
        · rintro b a w' ⟨v193, adz_v193, m13_, ha, Q_HI181, Q_HB, Q_HI181_e3, Q_HI181_e9, Q_HO194, Q_HA_HO194, Q_HI181_e12, Q_X13_⟩ hb_ hon hoff
          refine ⟨_, rfl, fun K hK => ?_⟩
          have e22 : a.tmps[22]? = some (.pointer (some ⟨g181, 0, none⟩)) := by rw [ha]; exact (putSel_off rfl).trans rfl
          replace ha := Aside0.mk ha
          have HB := Aside0.mk Q_HB
          have HI181 := Aside0.mk (Q_HI181_e3 (hon 3 (by kernel_rfl)) hb_)
          refine goes_ Try.func51 (by kernel_rfl) rfl #[.pointer (some ⟨g181, 0, none⟩)] (by rfl) rfl rfl (by first | (simp only [List.map_toArray, List.map_cons, List.map_nil, Act.eval, Array.getD_eq_getD_getElem?, Option.getD_some, e22]; done) | (simp only [List.map_toArray, List.map_cons, List.map_nil, Act.eval, Array.getD_eq_getD_getElem?, Option.getD_some, e22]; rfl)) ?_
          with_reducible refine (spec_l01Cur_raw.calls g181 t178 t187 t188 t189 t190 t191 w _ ?side1 ?side2 A7.out).mono ?_
          (case side1 => repeat (first | (with_reducible first | exact HI181.out | apply IsS48.alloc | apply IsS48.drewN | apply IsS48.drew | apply IsS48.set_1 | apply IsS48.set_2) | exact HI181.out))
          (case side2 => repeat (first | (with_reducible first | exact HB.out | apply below_alloc | apply pw_below_drewN | apply below_drew1 | refine below_set ?_ (IsS48.ge HI181.out)) | exact HB.out))
          rintro e w16 ⟨rfl, hi, hb, hk⟩
          refine ⟨_, rfl, ?_⟩
          have n0_ := Aside0.mk (hb)
          have n1_ := Aside0.mk (hi)
          clear HB
          clear HI181
          have HB := n0_
          have HI181 := n1_
          clear n0_ n1_
          (try clear hb)
          (try clear hb2)
          (try clear hk)
          (try clear hi)
          refine hK.out _ _ ⟨v193, adz_v193, m13_, (by rw [ha.out]; exact putSel_upk 3 hb_ rfl rfl rfl), fun h0_ => absurd ((hon 3 (by kernel_rfl)).symm.trans h0_) (by decide), (by repeat (first | (with_reducible first | exact HB.out | apply below_alloc | apply pw_below_drewN | apply below_drew1 | refine below_set ?_ (IsS48.ge HI181.out)) | exact HB.out)), fun _ h1_ => absurd ((up_self b 9).symm.trans h1_) (by decide), fun _ _ => (by repeat (first | (with_reducible first | exact HI181.out | apply IsS48.alloc | apply IsS48.drewN | apply IsS48.drew | apply IsS48.set_1 | apply IsS48.set_2) | exact HI181.out)), fun h0_ => absurd ((hoff 10 (by kernel_rfl)).symm.trans h0_) (by decide), fun h0_ => absurd ((hoff 10 (by kernel_rfl)).symm.trans h0_) (by decide), fun h0_ => absurd ((hoff 12 (by kernel_rfl)).symm.trans h0_) (by decide), fun h0_ => absurd ((hoff 13 (by kernel_rfl)).symm.trans h0_) (by decide)⟩
        refine steps_cons ?_ ?_
        · rintro b a w' ⟨v193, adz_v193, m13_, ha, Q_HI181, Q_HB, Q_HI181_e3, Q_HI181_e9, Q_HO194, Q_HA_HO194, Q_HI181_e12, Q_X13_⟩ hb_ hon hoff
          refine ⟨_, rfl, fun K hK => ?_⟩
          have e18 : a.tmps[18]? = some (.int .i64 (wrap64 (1 + t186))) := by rw [ha]; exact putSel_on (e := (4, 18, .int .i64 (wrap64 (1 + t186)))) 1 rfl rfl (hon 4 (by kernel_rfl)) rfl
          have e19 : a.tmps[19]? = some (.int .i64 ji5) := by rw [ha]; exact (putSel_off rfl).trans rfl
          have e21 : a.tmps[21]? = some (.int .i64 (wrap64 ((ji5) + 1))) := by rw [ha]; exact putSel_on (e := (7, 21, .int .i64 (wrap64 ((ji5) + 1)))) 2 rfl rfl (hon 7 (by kernel_rfl)) rfl
          have e23 : a.tmps[23]? = some (.int .i64 t189) := by rw [ha]; exact putSel_on (e := (9, 23, .int .i64 t189)) 3 rfl rfl (hon 9 (by kernel_rfl)) rfl
          replace ha := Aside0.mk ha
          have HB := Aside0.mk Q_HB
          refine Kd.R_lit_step (Kd.int .i64) _ 3 ?hg (N := 24) ?hd (xs := ([wrap64 (1 + t186), ji5, wrap64 ((ji5) + 1), t189] : List Int)) (inner := [.int .i64 (wrap64 (1 + t186)), .int .i64 ji5, .int .i64 (wrap64 ((ji5) + 1)), .int .i64 t189]) (ok := fun _ => True) (okp := fun _ => True) ?hr ?hp (fun _ hk => hk) trivial (Below.refl _ _) (Nat.le_refl _) (by simp) ?_; (case hd => rfl); (case hg => rfl); (case hr => first | (go_simp; done) | (go_simp; rfl)); (case hp => exact (Reps.one (show Kd.M (Kd.int .i64) _ _ _ (wrap64 (1 + t186)) [.int .i64 (wrap64 (1 + t186))] from rfl) (Reps.one (show Kd.M (Kd.int .i64) _ _ _ ji5 [.int .i64 ji5] from rfl) (Reps.one (show Kd.M (Kd.int .i64) _ _ _ (wrap64 ((ji5) + 1)) [.int .i64 (wrap64 ((ji5) + 1))] from rfl) (Reps.one (show Kd.M (Kd.int .i64) _ _ _ t189 [.int .i64 t189] from rfl) (Reps.none _ _))))))
          intro v193 w17 ho18 hb hg_ hnew_
          clear hg_ hnew_
          (first | rw [← Ny192.out] at ho18 | (simp only [Int.reduceToNat] at ho18; rw [← Ny192.out] at ho18))
          have n0_ := Aside0.mk (Kd.R_lower ho18 (below_size (by repeat (first | (with_reducible first | exact HB.out | apply below_alloc | apply pw_below_drewN | apply below_drew1) | exact HB.out))))
          have n2_ := Aside0.mk (below_step (by repeat (first | (with_reducible first | exact HB.out | apply below_alloc | apply pw_below_drewN | apply below_drew1) | exact HB.out)) hb)
          have z_HI181_e9 := fun (h0_ : b 9 = true) (h1_ : b 12 = false) => (show IsS48 w w17 g181 t178 t190 t191 from by first | exact (IsS48.below (by repeat (first | (with_reducible first | exact (Q_HI181_e9 h0_ h1_) | apply IsS48.alloc | apply IsS48.drewN | apply IsS48.drew | apply IsS48.set_1 | apply IsS48.set_2) | exact (Q_HI181_e9 h0_ h1_))) hb))
          have z_HI181_e12 := fun (h0_ : b 12 = true) => (show IsS48 w w17 g181 t178 t196 t197 from by first | exact (IsS48.below (by repeat (first | (with_reducible first | exact (Q_HI181_e12 h0_) | apply IsS48.alloc | apply IsS48.drewN | apply IsS48.drew | apply IsS48.set_1 | apply IsS48.set_2) | exact (Q_HI181_e12 h0_))) hb))
          clear HB
          have HO194 := n0_
          have HB := n2_
          clear n0_ n2_
          clear hb ho18
          obtain ⟨Ao19, co19, eo19⟩ := Kd.R_slice HO194.out
          subst eo19
          obtain ⟨ado19, fo19, _⟩ := Kd.at_int (Kd.R_reads' HO194.out).2.2 0 (by decide) (by rw [Ny192.out]; simp)
          cases fo19
          refine hK.out _ _ ⟨.slice (some ado19) y192.length co19, ado19, m13_, (by rw [ha.out]; exact putSel_upk 4 hb_ rfl rfl rfl), fun h0_ => absurd ((hon 3 (by kernel_rfl)).symm.trans h0_) (by decide), (by repeat (first | (with_reducible first | exact HB.out | apply below_alloc | apply pw_below_drewN | apply below_drew1) | exact HB.out)), fun _ h1_ => absurd ((hon 9 (by kernel_rfl)).symm.trans h1_) (by decide), z_HI181_e9, fun _ => (by (with_reducible repeat (first | apply Kd.R_alloc | apply Kd.R_drewN | apply Kd.R_drew)); exact HO194.out), fun _ => ⟨_, rfl⟩, z_HI181_e12, fun h0_ => absurd ((hoff 13 (by kernel_rfl)).symm.trans h0_) (by decide)⟩
        refine steps_cons ?_ ?_
        · rintro b a w' ⟨v193, adz_v193, m13_, ha, Q_HI181, Q_HB, Q_HI181_e3, Q_HI181_e9, Q_HO194, Q_HA_HO194, Q_HI181_e12, Q_X13_⟩ hb_ hon hoff
          refine ⟨_, rfl, fun K hK => ?_⟩
          have e25 : a.tmps[25]? = some (.pointer (some ⟨g181, 0, none⟩)) := by rw [ha]; exact (putSel_off rfl).trans rfl
          replace ha := Aside0.mk ha
          have HB := Aside0.mk Q_HB
          have HI181 := Aside0.mk (Q_HI181_e9 (hon 9 (by kernel_rfl)) hb_)
          refine goes_ Try.func50 (by kernel_rfl) rfl #[.pointer (some ⟨g181, 0, none⟩), .int .i64 4] (by rfl) rfl rfl (by first | (simp only [List.map_toArray, List.map_cons, List.map_nil, Act.eval, Array.getD_eq_getD_getElem?, Option.getD_some, e25]; done) | (simp only [List.map_toArray, List.map_cons, List.map_nil, Act.eval, Array.getD_eq_getD_getElem?, Option.getD_some, e25]; rfl)) ?_
          with_reducible refine (spec_l01Cur_pick.calls g181 t178 t190 t191 4 t195 t196 t197 w _ ?side1 ?side2 A8.out).mono ?_
          (case side1 => repeat (first | (with_reducible first | exact HI181.out | apply IsS48.alloc | apply IsS48.drewN | apply IsS48.drew | apply IsS48.set_1 | apply IsS48.set_2) | exact HI181.out))
          (case side2 => repeat (first | (with_reducible first | exact HB.out | apply below_alloc | apply pw_below_drewN | apply below_drew1 | refine below_set ?_ (IsS48.ge HI181.out)) | exact HB.out))
          rintro e w17 ⟨rfl, hi, hb, hk⟩
          refine ⟨_, rfl, ?_⟩
          have n0_ := Aside0.mk (hb)
          have n1_ := Aside0.mk (hi)
          have z_HO194 := fun (h0_ : b 10 = true) => (show Kd.R (Kd.int .i64) 3 w17 w.heap.size (fun _ => True) v193 y192 from by first | exact (Kd.R_mono (Kd.R_keep (IsS48.apart (show IsS48 w _ g181 t178 t190 t191 from by repeat (first | (with_reducible first | exact HI181.out | apply IsS48.alloc | apply IsS48.drewN | apply IsS48.drew | apply IsS48.set_1 | apply IsS48.set_2) | exact HI181.out)) (by (with_reducible repeat (first | apply Kd.R_alloc | apply Kd.R_drewN | apply Kd.R_drew)); exact (Q_HO194 h0_)) (by decide)) hk (fun _ h => h.2)) (fun _ h => h.1)) | exact Kd.R_mono (Kd.R_mono (Kd.R_keep (IsS48.apart (show IsS48 w _ g181 t178 t190 t191 from by repeat (first | (with_reducible first | exact HI181.out | apply IsS48.alloc | apply IsS48.drewN | apply IsS48.drew | apply IsS48.set_1 | apply IsS48.set_2) | exact HI181.out)) (by (with_reducible repeat (first | apply Kd.R_alloc | apply Kd.R_drewN | apply Kd.R_drew)); exact (Q_HO194 h0_)) (by decide)) hk (fun _ h => h.2)) (fun _ h => h.1)) (fun _ h_ => by first | trivial | exact h_ | exact h_.1))
          clear HB
          clear HI181
          have HB := n0_
          have HI181 := n1_
          clear n0_ n1_
          (try clear hb)
          (try clear hb2)
          (try clear hk)
          (try clear hi)
          refine hK.out _ _ ⟨v193, adz_v193, m13_, (by rw [ha.out]; exact putSel_upk 5 hb_ rfl rfl rfl), fun h0_ => absurd ((hon 3 (by kernel_rfl)).symm.trans h0_) (by decide), (by repeat (first | (with_reducible first | exact HB.out | apply below_alloc | apply pw_below_drewN | apply below_drew1 | refine below_set ?_ (IsS48.ge HI181.out)) | exact HB.out)), fun _ h1_ => absurd ((hon 9 (by kernel_rfl)).symm.trans h1_) (by decide), fun _ h1_ => absurd ((up_self b 12).symm.trans h1_) (by decide), z_HO194, Q_HA_HO194, fun _ => (by repeat (first | (with_reducible first | exact HI181.out | apply IsS48.alloc | apply IsS48.drewN | apply IsS48.drew | apply IsS48.set_1 | apply IsS48.set_2) | exact HI181.out)), fun h0_ => absurd ((hoff 13 (by kernel_rfl)).symm.trans h0_) (by decide)⟩
        refine steps_cons ?_ ?_
        · rintro b a w' ⟨v193, adz_v193, m13_, ha, Q_HI181, Q_HB, Q_HI181_e3, Q_HI181_e9, Q_HO194, Q_HA_HO194, Q_HI181_e12, Q_X13_⟩ hb_ hon hoff
          refine ⟨_, rfl, fun K hK => ?_⟩
          have e24 : a.tmps[24]? = some (v193) := by rw [ha]; exact putSel_on (e := (10, 24, v193)) 4 rfl rfl (hon 10 (by kernel_rfl)) rfl
          have e26 : a.tmps[26]? = some (.int .i64 t195) := by rw [ha]; exact putSel_on (e := (12, 26, .int .i64 t195)) 5 rfl rfl (hon 12 (by kernel_rfl)) rfl
          replace ha := Aside0.mk ha
          have HB := Aside0.mk Q_HB
          have HO194 := Aside0.mk (Q_HO194 (hon 10 (by kernel_rfl)))
          have HA_HO194 := Aside0.mk (Q_HA_HO194 (hon 10 (by kernel_rfl)))
          have HI181 := Aside0.mk (Q_HI181_e12 (hon 12 (by kernel_rfl)))
          obtain ⟨c_, hv_⟩ := HA_HO194.out
          rw [hv_] at e24
          refine value_ (w1 := w') (v := .pointer (some (adz_v193.add (t195).toNat))) (by rfl) rfl ?_ ?_
          · go_simp
            (try simp only [i64_w])
            try rfl
          refine hK.out _ _ ⟨v193, adz_v193, (.pointer (some (adz_v193.add (t195).toNat))), (by rw [ha.out]; exact putSel_upk 6 hb_ rfl rfl rfl), fun h0_ => absurd ((hon 3 (by kernel_rfl)).symm.trans h0_) (by decide), Q_HB, fun _ h1_ => absurd ((hon 9 (by kernel_rfl)).symm.trans h1_) (by decide), fun _ h1_ => absurd ((hon 12 (by kernel_rfl)).symm.trans h1_) (by decide), Q_HO194, Q_HA_HO194, Q_HI181_e12, fun _ => rfl⟩
        refine steps_cons ?_ ?_
        · rintro b a w' ⟨v193, adz_v193, m13_, ha, Q_HI181, Q_HB, Q_HI181_e3, Q_HI181_e9, Q_HO194, Q_HA_HO194, Q_HI181_e12, Q_X13_⟩ hb_ hon hoff
          refine ⟨_, rfl, fun K hK => ?_⟩
          have e27 : a.tmps[27]? = some (m13_) := by rw [ha]; exact putSel_on (e := (13, 27, m13_)) 6 rfl rfl (hon 13 (by kernel_rfl)) rfl
          rw [Q_X13_ (hon 13 (by kernel_rfl))] at e27
          replace ha := Aside0.mk ha
          have HB := Aside0.mk Q_HB
          have HO194 := Aside0.mk (Q_HO194 (hon 10 (by kernel_rfl)))
          have HA_HO194 := Aside0.mk (Q_HA_HO194 (hon 10 (by kernel_rfl)))
          have HI181 := Aside0.mk (Q_HI181_e12 (hon 12 (by kernel_rfl)))
          obtain ⟨c_, hv_⟩ := HA_HO194.out
          have hF_ := HO194.out
          rw [hv_] at hF_
          obtain ⟨ad_, ea_, hx_⟩ := Kd.at_int (Kd.R_reads' hF_).2.2 t195 (of_eq_true pi198) (of_eq_true qi198)
          cases ea_
          refine value_ (w1 := w') (v := .int .i64 (rd y192 t195)) (by rfl) rfl ?_ ?_
          · go_simp
            (try simp only [i64_w])
            try rfl
          refine hK.out _ _ ⟨v193, adz_v193, m13_, (by rw [ha.out]; exact putSel_upk 7 hb_ rfl rfl rfl), fun h0_ => absurd ((hon 3 (by kernel_rfl)).symm.trans h0_) (by decide), Q_HB, fun _ h1_ => absurd ((hon 9 (by kernel_rfl)).symm.trans h1_) (by decide), fun _ h1_ => absurd ((hon 12 (by kernel_rfl)).symm.trans h1_) (by decide), Q_HO194, Q_HA_HO194, Q_HI181_e12, Q_X13_⟩
        refine steps_cons ?_ ?_
        · rintro b a w' ⟨v193, adz_v193, m13_, ha, Q_HI181, Q_HB, Q_HI181_e3, Q_HI181_e9, Q_HO194, Q_HA_HO194, Q_HI181_e12, Q_X13_⟩ hb_ hon hoff
          refine ⟨_, rfl, fun K hK => ?_⟩
          have e14 : a.tmps[14]? = some (.int .i64 t182) := by rw [ha]; exact (putSel_off rfl).trans rfl
          replace ha := Aside0.mk ha
          have HB := Aside0.mk Q_HB
          have HI181 := Aside0.mk (Q_HI181_e12 (hon 12 (by kernel_rfl)))
          refine value_ (w1 := w') (v := .int .i64 t182) (by rfl) rfl ?_ ?_
          · go_simp
            (try simp only [i64_w])
            try rfl
          refine hK.out _ _ ⟨v193, adz_v193, m13_, (by rw [ha.out]; exact putSel_upk 8 hb_ rfl rfl rfl), fun h0_ => absurd ((hon 3 (by kernel_rfl)).symm.trans h0_) (by decide), Q_HB, fun _ h1_ => absurd ((hon 9 (by kernel_rfl)).symm.trans h1_) (by decide), fun _ h1_ => absurd ((hon 12 (by kernel_rfl)).symm.trans h1_) (by decide), Q_HO194, Q_HA_HO194, Q_HI181_e12, Q_X13_⟩
        refine steps_cons ?_ ?_
        · rintro b a w' ⟨v193, adz_v193, m13_, ha, Q_HI181, Q_HB, Q_HI181_e3, Q_HI181_e9, Q_HO194, Q_HA_HO194, Q_HI181_e12, Q_X13_⟩ hb_ hon hoff
          refine ⟨_, rfl, fun K hK => ?_⟩
          have e28 : a.tmps[28]? = some (.int .i64 (rd y192 t195)) := by rw [ha]; exact putSel_on (e := (14, 28, .int .i64 (rd y192 t195))) 7 rfl rfl (hon 14 (by kernel_rfl)) rfl
          replace ha := Aside0.mk ha
          have HB := Aside0.mk Q_HB
          have HO194 := Aside0.mk (Q_HO194 (hon 10 (by kernel_rfl)))
          have HA_HO194 := Aside0.mk (Q_HA_HO194 (hon 10 (by kernel_rfl)))
          have HI181 := Aside0.mk (Q_HI181_e12 (hon 12 (by kernel_rfl)))
          refine value_ (w1 := w') (v := .int .i64 (rd y192 t195)) (by rfl) rfl ?_ ?_
          · go_simp
            (try simp only [i64_w])
            try rfl
          refine hK.out _ _ ⟨v193, adz_v193, m13_, (by rw [ha.out]; exact putSel_upk 9 hb_ rfl rfl rfl), fun h0_ => absurd ((hon 3 (by kernel_rfl)).symm.trans h0_) (by decide), Q_HB, fun _ h1_ => absurd ((hon 9 (by kernel_rfl)).symm.trans h1_) (by decide), fun _ h1_ => absurd ((hon 12 (by kernel_rfl)).symm.trans h1_) (by decide), Q_HO194, Q_HA_HO194, Q_HI181_e12, Q_X13_⟩
        exact steps_nil
      rintro b a w20 hall ⟨v193, adz_v193, m13_, ha, Q_HI181, Q_HB, Q_HI181_e3, Q_HI181_e9, Q_HO194, Q_HA_HO194, Q_HI181_e12, Q_X13_⟩
      clear HB HI181
      have hb3_ := hall 3 (by kernel_rfl)
      have hb4_ := hall 4 (by kernel_rfl)
      have hb7_ := hall 7 (by kernel_rfl)
      have hb9_ := hall 9 (by kernel_rfl)
      have hb10_ := hall 10 (by kernel_rfl)
      have hb12_ := hall 12 (by kernel_rfl)
      have hb13_ := hall 13 (by kernel_rfl)
      have hb14_ := hall 14 (by kernel_rfl)
      have hb15_ := hall 15 (by kernel_rfl)
      have hb16_ := hall 16 (by kernel_rfl)
      subst ha
      obtain rfl := Q_X13_ hb13_
      simp only [putSel, hb3_, hb4_, hb7_, hb9_, hb10_, hb12_, hb13_, hb14_, hb15_, hb16_, if_true, Act.put, List.setIfInBounds_toArray, List.set_cons_zero, List.set_cons_succ]
      clear Q_HI181
      have HB := Aside0.mk Q_HB
      clear Q_HB
      clear Q_HI181_e3
      clear Q_HI181_e9
      have HO194 := Aside0.mk (Q_HO194 hb10_)
      clear Q_HO194
      have HA_HO194 := Aside0.mk (Q_HA_HO194 hb10_)
      clear Q_HA_HO194
      have HI181 := Aside0.mk (Q_HI181_e12 hb12_)
      clear Q_HI181_e12
      clear hall hb3_ hb4_ hb7_ hb9_ hb10_ hb12_ hb13_ hb14_ hb15_ hb16_
      obtain ⟨co21, eo21⟩ := HA_HO194.out
      clear HA_HO194
      subst eo21
      try go_wp2
      go_ret2
      exact ⟨by first | rfl | (simp [errW_none, errW_some] <;> rfl) | (simp only [← hji5]; first | rfl | (simp [errW_none, errW_some] <;> rfl)) | (simp [*, errW_none, errW_some] <;> rfl), by repeat (first | (with_reducible first | exact HB.out | apply below_alloc | apply pw_below_drewN | apply below_drew1 | refine below_set ?_ (IsS48.ge HI181.out)) | exact HB.out)⟩
    · rw [if_neg c10] at H
      exact absurd H (by simp)
  · rw [if_neg c9] at H
    exact absurd H (by simp)

/-! ### laws_FnLeavesCover: function 11 -/
mutual
def laws_FnLeavesCover.j0 : Nat → Int → Int → Int → Int → Int → Int → Bool → Option (Bool)
  | 0, _, _, _, _, _, _, _ => none
  | k + 1, x3, x4, x5, x6, x7, x8, x42 => if x42 = true then (if x5 = x7 then (some (x6 == x8)) else (some false)) else ((impl_NodeLevel.f x4).bind fun t206 => (laws_FnLeavesCover.l0 k x3 x4 x5 x6 1 t206))
def laws_FnLeavesCover.l0 : Nat → Int → Int → Int → Int → Int → Int → Option (Bool)
  | 0, _, _, _, _, _, _ => none
  | k + 1, x3, x4, x5, x6, x9, x10 => if x10 < x3 then (laws_FnLeavesCover.l0 k x3 x4 x5 x6 (wrap64 (2 * x9)) (wrap64 (x10 + 1))) else (if (wrap64 ((wrap64 (x6 - x5)) + 1)) = x9 then (laws_FnLeavesCover.l1 k x3 x4 x5 x6 0) else (some false))
def laws_FnLeavesCover.l1 : Nat → Int → Int → Int → Int → Int → Option (Bool)
  | 0, _, _, _, _, _ => none
  | k + 1, x3, x4, x5, x6, x11 => (impl_TreeNodes.f x3).bind fun t207 => (if x11 < (wrap64 (Int.tdiv (wrap64 (t207 + 1)) 2)) then ((impl_OnPath.f x3 x4 x11).bind fun t208 => (if x5 ≤ x11 then (if (t208 != (decide (x11 ≤ x6))) = true then (some false) else (laws_FnLeavesCover.l1 k x3 x4 x5 x6 (wrap64 (x11 + 1)))) else (if (t208 != false) = true then (some false) else (laws_FnLeavesCover.l1 k x3 x4 x5 x6 (wrap64 (x11 + 1)))))) else (some true))
end
def laws_FnLeavesCover.f (k : Nat) (l0 : List Int) : Option (Bool) := (laws_big.f l0).bind fun t199 => (if t199 = true then (some true) else ((spec_DrawNodeLeaves.f k l0).bind fun bt200 => ((impl_NodeLeaves.f bt200.1 bt200.2).bind fun bt202 => ((spec_NodeLeaves.f k bt200.1 bt200.2).bind fun bt204 => (if bt202.1 = bt204.1 then (if bt202.2 = bt204.2 then (laws_FnLeavesCover.j0 k bt200.1 bt200.2 bt202.1 bt202.2 bt204.1 bt204.2 (decide (bt202.1 < 0))) else (laws_FnLeavesCover.j0 k bt200.1 bt200.2 bt202.1 bt202.2 bt204.1 bt204.2 true)) else (laws_FnLeavesCover.j0 k bt200.1 bt200.2 bt202.1 bt202.2 bt204.1 bt204.2 true))))))
theorem laws_FnLeavesCover.mono_l : ∀ k, (∀ y0 y1 y2 y3 y4 y5 y6, LeO (laws_FnLeavesCover.j0 k y0 y1 y2 y3 y4 y5 y6) (laws_FnLeavesCover.j0 (k + 1) y0 y1 y2 y3 y4 y5 y6)) ∧ (∀ y0 y1 y2 y3 y4 y5, LeO (laws_FnLeavesCover.l0 k y0 y1 y2 y3 y4 y5) (laws_FnLeavesCover.l0 (k + 1) y0 y1 y2 y3 y4 y5)) ∧ (∀ y0 y1 y2 y3 y4, LeO (laws_FnLeavesCover.l1 k y0 y1 y2 y3 y4) (laws_FnLeavesCover.l1 (k + 1) y0 y1 y2 y3 y4))
  | 0 => ⟨fun _ _ _ _ _ _ _ r h => by simp [laws_FnLeavesCover.j0] at h, fun _ _ _ _ _ _ r h => by simp [laws_FnLeavesCover.l0] at h, fun _ _ _ _ _ r h => by simp [laws_FnLeavesCover.l1] at h⟩
  | k + 1 => by
    obtain ⟨ih0, ih1, ih2⟩ := laws_FnLeavesCover.mono_l k
    refine ⟨?_, ?_, ?_⟩
    · intro y0 y1 y2 y3 y4 y5 y6
      unfold laws_FnLeavesCover.j0
      repeat' first
      | (with_reducible exact ih0 _ _ _ _ _ _ _)
      | (with_reducible exact ih1 _ _ _ _ _ _)
      | (with_reducible exact ih2 _ _ _ _ _)
      | (with_reducible exact spec_DrawNodeLeaves.mono _ _)
      | (with_reducible exact spec_NodeLeaves.mono _ _ _)
      | (with_reducible exact LeO.refl _)
      | (with_reducible exact LeO.none _)
      | (with_reducible refine LeO.ite ?_ ?_)
      | (with_reducible refine LeO.bind ?_ (fun _ => ?_))
      | exact ih0 _ _ _ _ _ _ _
      | exact ih1 _ _ _ _ _ _
      | exact ih2 _ _ _ _ _
      | exact spec_DrawNodeLeaves.mono _ _
      | exact spec_NodeLeaves.mono _ _ _
      | exact LeO.none _
      | refine LeO.ite ?_ ?_
      | refine LeO.bind ?_ (fun _ => ?_)
    · intro y0 y1 y2 y3 y4 y5
      unfold laws_FnLeavesCover.l0
      repeat' first
      | (with_reducible exact ih0 _ _ _ _ _ _ _)
      | (with_reducible exact ih1 _ _ _ _ _ _)
      | (with_reducible exact ih2 _ _ _ _ _)
      | (with_reducible exact spec_DrawNodeLeaves.mono _ _)
      | (with_reducible exact spec_NodeLeaves.mono _ _ _)
      | (with_reducible exact LeO.refl _)
      | (with_reducible exact LeO.none _)
      | (with_reducible refine LeO.ite ?_ ?_)
      | (with_reducible refine LeO.bind ?_ (fun _ => ?_))
      | exact ih0 _ _ _ _ _ _ _
      | exact ih1 _ _ _ _ _ _
      | exact ih2 _ _ _ _ _
      | exact spec_DrawNodeLeaves.mono _ _
      | exact spec_NodeLeaves.mono _ _ _
      | exact LeO.none _
      | refine LeO.ite ?_ ?_
      | refine LeO.bind ?_ (fun _ => ?_)
    · intro y0 y1 y2 y3 y4
      unfold laws_FnLeavesCover.l1
      repeat' first
      | (with_reducible exact ih0 _ _ _ _ _ _ _)
      | (with_reducible exact ih1 _ _ _ _ _ _)
      | (with_reducible exact ih2 _ _ _ _ _)
      | (with_reducible exact spec_DrawNodeLeaves.mono _ _)
      | (with_reducible exact spec_NodeLeaves.mono _ _ _)
      | (with_reducible exact LeO.refl _)
      | (with_reducible exact LeO.none _)
      | (with_reducible refine LeO.ite ?_ ?_)
      | (with_reducible refine LeO.bind ?_ (fun _ => ?_))
      | exact ih0 _ _ _ _ _ _ _
      | exact ih1 _ _ _ _ _ _
      | exact ih2 _ _ _ _ _
      | exact spec_DrawNodeLeaves.mono _ _
      | exact spec_NodeLeaves.mono _ _ _
      | exact LeO.none _
      | refine LeO.ite ?_ ?_
      | refine LeO.bind ?_ (fun _ => ?_)
theorem laws_FnLeavesCover.mono : ∀ a0 k, LeO (laws_FnLeavesCover.f k a0) (laws_FnLeavesCover.f (k + 1) a0) := by
  intro a0 k
  obtain ⟨ih0, ih1, ih2⟩ := laws_FnLeavesCover.mono_l k
  unfold laws_FnLeavesCover.f
  repeat' first
      | (with_reducible exact ih0 _ _ _ _ _ _ _)
      | (with_reducible exact ih1 _ _ _ _ _ _)
      | (with_reducible exact ih2 _ _ _ _ _)
      | (with_reducible exact spec_DrawNodeLeaves.mono _ _)
      | (with_reducible exact spec_NodeLeaves.mono _ _ _)
      | (with_reducible exact LeO.refl _)
      | (with_reducible exact LeO.none _)
      | (with_reducible refine LeO.ite ?_ ?_)
      | (with_reducible refine LeO.bind ?_ (fun _ => ?_))
      | exact ih0 _ _ _ _ _ _ _
      | exact ih1 _ _ _ _ _ _
      | exact ih2 _ _ _ _ _
      | exact spec_DrawNodeLeaves.mono _ _
      | exact spec_NodeLeaves.mono _ _ _
      | exact LeO.none _
      | refine LeO.ite ?_ ?_
      | refine LeO.bind ?_ (fun _ => ?_)
set_option maxHeartbeats 8000000 in
set_option maxRecDepth 100000 in
theorem laws_FnLeavesCover.calls (k : Nat) (A0 : Option Addr) (c0 : Nat) (l0 : List Int) (r : Bool) (w : World) (hr0 : Kd.C (Kd.int .u8) w A0 l0.length l0) (hc0 : l0.length ≤ c0) (h : laws_FnLeavesCover.f k l0 = some r) :
    Calls Try.prog 11 #[.slice A0 l0.length c0] w fun e w' => e = .returned (.bool r) ∧ Below w.heap.size w w' := by
  have HR0 := Aside0.mk hr0
  have HC0 := Aside0.mk hc0
  clear hr0 hc0
  have HB := Aside0.mk (Below.refl w.heap.size w)
  have H : ((laws_big.f l0).bind fun t199 => (if t199 = true then (some true) else ((spec_DrawNodeLeaves.f k l0).bind fun bt200 => ((impl_NodeLeaves.f bt200.1 bt200.2).bind fun bt202 => ((spec_NodeLeaves.f k bt200.1 bt200.2).bind fun bt204 => (if bt202.1 = bt204.1 then (if bt202.2 = bt204.2 then (laws_FnLeavesCover.j0 k bt200.1 bt200.2 bt202.1 bt202.2 bt204.1 bt204.2 (decide (bt202.1 < 0))) else (laws_FnLeavesCover.j0 k bt200.1 bt200.2 bt202.1 bt202.2 bt204.1 bt204.2 true)) else (laws_FnLeavesCover.j0 k bt200.1 bt200.2 bt202.1 bt202.2 bt204.1 bt204.2 true))))))) = some r := h
  clear h
  replace H := Option.bind_eq_some_iff.mp H
  obtain ⟨t199, A20, H⟩ := H
  replace H : (if t199 = true then (some true) else ((spec_DrawNodeLeaves.f k l0).bind fun bt200 => ((impl_NodeLeaves.f bt200.1 bt200.2).bind fun bt202 => ((spec_NodeLeaves.f k bt200.1 bt200.2).bind fun bt204 => (if bt202.1 = bt204.1 then (if bt202.2 = bt204.2 then (laws_FnLeavesCover.j0 k bt200.1 bt200.2 bt202.1 bt202.2 bt204.1 bt204.2 (decide (bt202.1 < 0))) else (laws_FnLeavesCover.j0 k bt200.1 bt200.2 bt202.1 bt202.2 bt204.1 bt204.2 true)) else (laws_FnLeavesCover.j0 k bt200.1 bt200.2 bt202.1 bt202.2 bt204.1 bt204.2 true)))))) = some r := H
  have A2 := Aside0.mk A20
  clear A20
  by_cases c3 : t199 = true
  · subst c3
    have H1 : (some true) = some r := by rw [if_pos rfl] at H; exact H
    clear H
    have H := H1
    clear H1
    obtain rfl := Option.some.inj H
    go_enter Try.func11, Try.ntmps11
    go_wp2_with (first | ((with_reducible refine gate_callee (f := 32) rfl ?_); refine goesL_ (some 13) rfl rfl Try.func32 (by kernel_rfl) rfl #[.slice A0 l0.length c0] rfl (by (try simp only [List.map_toArray, List.map_cons, List.map_nil]); first | done | rfl | (simp only [List.length_drop, List.length_take]; rfl)) ?_; (with_reducible refine (laws_big.calls _ _ l0 true _ ?side1 ?side2 A2.out).mono ?_); (case side1 => repeat (first | exact HR0.out | (with_reducible refine Kd.C_alloc ?_ _) | (with_reducible refine Kd.C_drewN ?_ _) | (with_reducible refine Kd.C_drew ?_))); (case side2 => exact HC0.out); rintro e w' ⟨rfl, ⟨nd, rfl⟩⟩; refine ⟨_, rfl, ?_⟩))
    go_ret
    exact ⟨by first | rfl | (simp [errW_none, errW_some] <;> rfl) | (simp [*, errW_none, errW_some] <;> rfl), by repeat (first | (with_reducible first | exact HB.out | apply below_alloc | apply pw_below_drewN | apply below_drew1) | exact HB.out)⟩
  · replace c3 := Bool.eq_false_iff.mpr c3
    subst c3
    have H1 : ((spec_DrawNodeLeaves.f k l0).bind fun bt200 => ((impl_NodeLeaves.f bt200.1 bt200.2).bind fun bt202 => ((spec_NodeLeaves.f k bt200.1 bt200.2).bind fun bt204 => (if bt202.1 = bt204.1 then (if bt202.2 = bt204.2 then (laws_FnLeavesCover.j0 k bt200.1 bt200.2 bt202.1 bt202.2 bt204.1 bt204.2 (decide (bt202.1 < 0))) else (laws_FnLeavesCover.j0 k bt200.1 bt200.2 bt202.1 bt202.2 bt204.1 bt204.2 true)) else (laws_FnLeavesCover.j0 k bt200.1 bt200.2 bt202.1 bt202.2 bt204.1 bt204.2 true))))) = some r := by rw [if_neg (show ¬ (false = true) by decide)] at H; exact H
    clear H
    have H := H1
    clear H1
    replace H := Option.bind_eq_some_iff.mp H
    obtain ⟨⟨t200, t201⟩, A40, H⟩ := H
    replace H : ((impl_NodeLeaves.f t200 t201).bind fun bt202 => ((spec_NodeLeaves.f k t200 t201).bind fun bt204 => (if bt202.1 = bt204.1 then (if bt202.2 = bt204.2 then (laws_FnLeavesCover.j0 k t200 t201 bt202.1 bt202.2 bt204.1 bt204.2 (decide (bt202.1 < 0))) else (laws_FnLeavesCover.j0 k t200 t201 bt202.1 bt202.2 bt204.1 bt204.2 true)) else (laws_FnLeavesCover.j0 k t200 t201 bt202.1 bt202.2 bt204.1 bt204.2 true)))) = some r := H
    have A4 := Aside0.mk A40
    clear A40
    replace H := Option.bind_eq_some_iff.mp H
    obtain ⟨⟨t202, t203⟩, A50, H⟩ := H
    replace H : ((spec_NodeLeaves.f k t200 t201).bind fun bt204 => (if t202 = bt204.1 then (if t203 = bt204.2 then (laws_FnLeavesCover.j0 k t200 t201 t202 t203 bt204.1 bt204.2 (decide (t202 < 0))) else (laws_FnLeavesCover.j0 k t200 t201 t202 t203 bt204.1 bt204.2 true)) else (laws_FnLeavesCover.j0 k t200 t201 t202 t203 bt204.1 bt204.2 true))) = some r := H
    have A5 := Aside0.mk A50
    clear A50
    replace H := Option.bind_eq_some_iff.mp H
    obtain ⟨⟨t204, t205⟩, A60, H⟩ := H
    replace H : (if t202 = t204 then (if t203 = t205 then (laws_FnLeavesCover.j0 k t200 t201 t202 t203 t204 t205 (decide (t202 < 0))) else (laws_FnLeavesCover.j0 k t200 t201 t202 t203 t204 t205 true)) else (laws_FnLeavesCover.j0 k t200 t201 t202 t203 t204 t205 true)) = some r := H
    have A6 := Aside0.mk A60
    clear A60
    have HC7 := Aside0.mk H
    clear H
    go_enter Try.func11, Try.ntmps11
    go_upto_region 6 with (first | ((with_reducible refine gate_callee (f := 32) rfl ?_); refine goesL_ (some 13) rfl rfl Try.func32 (by kernel_rfl) rfl #[.slice A0 l0.length c0] rfl (by (try simp only [List.map_toArray, List.map_cons, List.map_nil]); first | done | rfl | (simp only [List.length_drop, List.length_take]; rfl)) ?_; (with_reducible refine (laws_big.calls _ _ l0 false _ ?side1 ?side2 A2.out).mono ?_); (case side1 => repeat (first | exact HR0.out | (with_reducible refine Kd.C_alloc ?_ _) | (with_reducible refine Kd.C_drewN ?_ _) | (with_reducible refine Kd.C_drew ?_))); (case side2 => exact HC0.out); rintro e w' ⟨rfl, ⟨nd, rfl⟩⟩; refine ⟨_, rfl, ?_⟩) | ((with_reducible refine gate_callee (f := 33) rfl ?_); refine goesL_ (some 16) rfl rfl Try.func33 (by kernel_rfl) rfl #[.slice A0 l0.length c0] rfl (by (try simp only [List.map_toArray, List.map_cons, List.map_nil]); first | done | rfl | (simp only [List.length_drop, List.length_take]; rfl)) ?_; (with_reducible refine (spec_DrawNodeLeaves.calls k _ _ l0 t200 t201 _ ?side1 ?side2 A4.out).mono ?_); (case side1 => repeat (first | exact HR0.out | (with_reducible refine Kd.C_alloc ?_ _) | (with_reducible refine Kd.C_drewN ?_ _) | (with_reducible refine Kd.C_drew ?_))); (case side2 => exact HC0.out); rintro e w8 ⟨rfl, hb⟩; refine ⟨_, rfl, ?_⟩; have n0_ := Aside0.mk (below_step (by repeat (first | (with_reducible first | exact HB.out | apply below_alloc | apply pw_below_drewN | apply below_drew1) | exact HB.out)) hb); clear HB; have HB := n0_; clear n0_; (try clear hb); (try clear hb2); (try clear hk); (try clear hi)) | ((with_reducible refine gate_callee (f := 31) rfl ?_); refine goesL_ (some 22) rfl rfl Try.func31 (by kernel_rfl) rfl #[.int .i64 t200, .int .i64 t201] rfl (by (try simp only [List.map_toArray, List.map_cons, List.map_nil]); first | done | rfl | (simp only [List.length_drop, List.length_take]; rfl)) ?_; (with_reducible refine (impl_NodeLeaves.calls t200 t201 t202 t203 _ A5.out).mono ?_); rintro e w' ⟨rfl, ⟨nd, rfl⟩⟩; refine ⟨_, rfl, ?_⟩) | ((with_reducible refine gate_callee (f := 30) rfl ?_); refine goesL_ (some 28) rfl rfl Try.func30 (by kernel_rfl) rfl #[.int .i64 t200, .int .i64 t201] rfl (by (try simp only [List.map_toArray, List.map_cons, List.map_nil]); first | done | rfl | (simp only [List.length_drop, List.length_take]; rfl)) ?_; (with_reducible refine (spec_NodeLeaves.calls k t200 t201 t204 t205 _ A6.out).mono ?_); rintro e w9 ⟨rfl, hb⟩; refine ⟨_, rfl, ?_⟩; have n0_ := Aside0.mk (below_step (by repeat (first | (with_reducible first | exact HB.out | apply below_alloc | apply pw_below_drewN | apply below_drew1) | exact HB.out)) hb); clear HB; have HB := n0_; clear n0_; (try clear hb); (try clear hb2); (try clear hk); (try clear hi)))
    (try simp only [Act.put, List.setIfInBounds_toArray, List.set_cons_zero, List.set_cons_succ])
    go_cut [42] (fun v42 wc => ∃ (kq : Nat) (x42_6 : Bool), v42 = .bool x42_6 ∧ Aside0 (laws_FnLeavesCover.j0 kq t200 t201 t202 t203 t204 t205 x42_6 = some r) ∧ Aside0 (kq ≤ k) ∧ Aside0 (Below w.heap.size w wc))
    case first =>
      have H := HC7.out
      clear HC7
      by_cases c10 : t202 = t204
      · rw [if_pos c10] at H
        have c10b0 : (t202 == t204) = true := beq_iff_eq.mpr c10
        have c10b1 : (t202 != t204) = false := bne_eq_false_iff_eq.mpr c10
        clear c10
        (first | rw [c10b0] | (simp only [i64_w, i32_w]; rw [c10b0]) | skip)
        by_cases c11 : t203 = t205
        · rw [if_pos c11] at H
          have c11b0 : (t203 == t205) = true := beq_iff_eq.mpr c11
          have c11b1 : (t203 != t205) = false := bne_eq_false_iff_eq.mpr c11
          clear c11
          have H' := Aside0.mk H
          clear H
          go_wp2
          go_meet
          case rel => exact ⟨_, (decide (t202 < 0)), (by first | rfl | (simp; done) | (simp [*]; done)), H', ⟨by first | omega | exact Nat.le_refl _⟩, ⟨by repeat (first | (with_reducible first | exact HB.out | apply below_alloc | apply pw_below_drewN | apply below_drew1) | exact HB.out)⟩⟩
        · rw [if_neg c11] at H
          have c11b0 : (t203 == t205) = false := beq_eq_false_iff_ne.mpr c11
          have c11b1 : (t203 != t205) = true := bne_iff_ne.mpr c11
          have H' := Aside0.mk H
          clear H
          go_wp2
          go_meet
          case rel => exact ⟨_, (true), (by first | rfl | (simp; done) | (simp [*]; done)), H', ⟨by first | omega | exact Nat.le_refl _⟩, ⟨by repeat (first | (with_reducible first | exact HB.out | apply below_alloc | apply pw_below_drewN | apply below_drew1) | exact HB.out)⟩⟩
      · rw [if_neg c10] at H
        have c10b0 : (t202 == t204) = false := beq_eq_false_iff_ne.mpr c10
        have c10b1 : (t202 != t204) = true := bne_iff_ne.mpr c10
        (first | rw [c10b0] | (simp only [i64_w, i32_w]; rw [c10b0]) | skip)
        have H' := Aside0.mk H
        clear H
        go_wp2
        go_meet
        case rel => exact ⟨_, (true), (by first | rfl | (simp; done) | (simp [*]; done)), H', ⟨by first | omega | exact Nat.le_refl _⟩, ⟨by repeat (first | (with_reducible first | exact HB.out | apply below_alloc | apply pw_below_drewN | apply below_drew1) | exact HB.out)⟩⟩
    case rest =>
      clear HC7
      try clear c1
      try clear p2
      try clear c3
      try clear c10
      try clear c10b0
      try clear c10b1
      try clear c11
      try clear c11b0
      try clear c11b1
      obtain ⟨kq, x42_6, rfl, HA, HJ6, HB⟩ := hcut
      cases kq with
      | zero => exact absurd HA.out (by simp [laws_FnLeavesCover.j0])
      | succ kj6 =>
        have H := HA.out
        clear HA
        simp only [laws_FnLeavesCover.j0] at H
        by_cases c12 : x42_6 = true
        · subst c12
          have H1 : (if t202 = t204 then (some (t203 == t205)) else (some false)) = some r := by rw [if_pos rfl] at H; exact H
          clear H
          have H := H1
          clear H1
          by_cases c13 : t202 = t204
          · rw [if_pos c13] at H
            have c13b0 : (t202 == t204) = true := beq_iff_eq.mpr c13
            have c13b1 : (t202 != t204) = false := bne_eq_false_iff_eq.mpr c13
            clear c13
            obtain rfl := Option.some.inj H
            go_wp2
            go_ret
            exact ⟨by first | rfl | (simp [errW_none, errW_some] <;> rfl) | (simp [*, errW_none, errW_some] <;> rfl), by repeat (first | (with_reducible first | exact HB.out | apply below_alloc | apply pw_below_drewN | apply below_drew1) | exact HB.out)⟩
          · rw [if_neg c13] at H
            have c13b0 : (t202 == t204) = false := beq_eq_false_iff_ne.mpr c13
            have c13b1 : (t202 != t204) = true := bne_iff_ne.mpr c13
            obtain rfl := Option.some.inj H
            go_wp2
            go_ret
            exact ⟨by first | rfl | (simp [errW_none, errW_some] <;> rfl) | (simp [*, errW_none, errW_some] <;> rfl), by repeat (first | (with_reducible first | exact HB.out | apply below_alloc | apply pw_below_drewN | apply below_drew1) | exact HB.out)⟩
        · replace c12 := Bool.eq_false_iff.mpr c12
          subst c12
          have H1 : ((impl_NodeLevel.f t201).bind fun t206 => (laws_FnLeavesCover.l0 kj6 t200 t201 t202 t203 1 t206)) = some r := by rw [if_neg (show ¬ (false = true) by decide)] at H; exact H
          clear H
          have H := H1
          clear H1
          replace H := Option.bind_eq_some_iff.mp H
          obtain ⟨t206, A140, H⟩ := H
          replace H : (laws_FnLeavesCover.l0 kj6 t200 t201 t202 t203 1 t206) = some r := H
          have A14 := Aside0.mk A140
          clear A140
          have H' := Aside0.mk H
          clear H
          go_wp2_with (first | ((with_reducible refine gate_callee (f := 20) rfl ?_); refine goesL_ (some 52) rfl rfl Try.func20 (by kernel_rfl) rfl #[.int .i64 t201] rfl (by (try simp only [List.map_toArray, List.map_cons, List.map_nil]); first | done | rfl | (simp only [List.length_drop, List.length_take]; rfl)) ?_; (with_reducible refine (impl_NodeLevel.calls t201 t206 _ A14.out).mono ?_); rintro e w' ⟨rfl, ⟨nd, rfl⟩⟩; refine ⟨_, rfl, ?_⟩))
          go_loopg [9, 10] kj6 (fun kq v9 v10 w' => ∃ (x9_2 : Int) (x10_2 : Int), v9 = .int .i64 x9_2 ∧ v10 = .int .i64 x10_2 ∧ Aside0 (laws_FnLeavesCover.l0 kq t200 t201 t202 t203 x9_2 x10_2 = some r) ∧ Aside0 (kq ≤ kj6) ∧ Aside0 (Below w.heap.size w w'))
          case atStart => exact ⟨(1), (t206), (by first | rfl | (simp; done) | (simp [*]; done)), (by first | rfl | (simp; done) | (simp [*]; done)), H', ⟨Nat.le_refl _⟩, ⟨by repeat (first | (with_reducible first | exact HB.out | apply below_alloc | apply pw_below_drewN | apply below_drew1) | exact HB.out)⟩⟩
          case round =>
            clear H'
            try clear c1
            try clear c2
            try clear p2
            try clear c3
            try clear c10
            try clear c10b0
            try clear c10b1
            try clear c11
            try clear c11b0
            try clear c11b1
            try clear c12
            try clear c13
            try clear c13b0
            try clear c13b1
            try clear p2
            obtain ⟨x9_2, x10_2, rfl, rfl, HA, HK2, HB⟩ := hrel
            cases gk with
            | zero => exact absurd HA.out (by simp [laws_FnLeavesCover.l0])
            | succ k2 =>
              have H := HA.out
              clear HA
              simp only [laws_FnLeavesCover.l0] at H
              by_cases c15 : x10_2 < t200
              · rw [if_pos c15] at H
                have c15b0 : decide (x10_2 < t200) = true := decide_eq_true c15
                clear c15
                have H' := Aside0.mk H
                clear H
                go_wp2
                go_roundg k2
                case measure => have := HJ6.out; have := HK2.out; omega
                case rel => exact ⟨(wrap64 (2 * x9_2)), (wrap64 (x10_2 + 1)), (by first | rfl | (simp; done) | (simp [*]; done)), (by first | rfl | (simp; done) | (simp [*]; done)), H', ⟨by have := HJ6.out; have := HK2.out; omega⟩, ⟨by repeat (first | (with_reducible first | exact HB.out | apply below_alloc | apply pw_below_drewN | apply below_drew1) | exact HB.out)⟩⟩
              · rw [if_neg c15] at H
                have c15b0 : decide (x10_2 < t200) = false := decide_eq_false c15
                clear c15
                by_cases c16 : (wrap64 ((wrap64 (t203 - t202)) + 1)) = x9_2
                · rw [if_pos c16] at H
                  have c16b0 : ((wrap64 ((wrap64 (t203 - t202)) + 1)) == x9_2) = true := beq_iff_eq.mpr c16
                  have c16b1 : ((wrap64 ((wrap64 (t203 - t202)) + 1)) != x9_2) = false := bne_eq_false_iff_eq.mpr c16
                  clear c16
                  have H' := Aside0.mk H
                  clear H
                  go_wp2
                  go_loopg [11] k2 (fun kq v11 w' => ∃ (x11_3 : Int), v11 = .int .i64 x11_3 ∧ Aside0 (laws_FnLeavesCover.l1 kq t200 t201 t202 t203 x11_3 = some r) ∧ Aside0 (kq ≤ k2) ∧ Aside0 (Below w.heap.size w w'))
                  case atStart => exact ⟨(0), (by first | rfl | (simp; done) | (simp [*]; done)), H', ⟨Nat.le_refl _⟩, ⟨by repeat (first | (with_reducible first | exact HB.out | apply below_alloc | apply pw_below_drewN | apply below_drew1) | exact HB.out)⟩⟩
                  case round =>
                    clear H'
                    try clear c1
                    try clear c2
                    try clear p2
                    try clear c3
                    try clear p6
                    try clear c10
                    try clear c10b0
                    try clear c10b1
                    try clear c11
                    try clear c11b0
                    try clear c11b1
                    try clear c12
                    try clear c13
                    try clear c13b0
                    try clear c13b1
                    try clear c15
                    try clear c15b0
                    try clear c16
                    try clear c16b0
                    try clear c16b1
                    try clear p2
                    obtain ⟨x11_3, rfl, HA, HK3, HB⟩ := hrel
                    cases gk with
                    | zero => exact absurd HA.out (by simp [laws_FnLeavesCover.l1])
                    | succ k3 =>
                      have H := HA.out
                      clear HA
                      simp only [laws_FnLeavesCover.l1] at H
                      replace H := Option.bind_eq_some_iff.mp H
                      obtain ⟨t207, A170, H⟩ := H
                      replace H : (if x11_3 < (wrap64 (Int.tdiv (wrap64 (t207 + 1)) 2)) then ((impl_OnPath.f t200 t201 x11_3).bind fun t208 => (if t202 ≤ x11_3 then (if (t208 != (decide (x11_3 ≤ t203))) = true then (some false) else (laws_FnLeavesCover.l1 k3 t200 t201 t202 t203 (wrap64 (x11_3 + 1)))) else (if (t208 != false) = true then (some false) else (laws_FnLeavesCover.l1 k3 t200 t201 t202 t203 (wrap64 (x11_3 + 1)))))) else (some true)) = some r := H
                      have A17 := Aside0.mk A170
                      clear A170
                      by_cases c18 : x11_3 < (wrap64 (Int.tdiv (wrap64 (t207 + 1)) 2))
                      · rw [if_pos c18] at H
                        have c18b0 : decide (x11_3 < (wrap64 (Int.tdiv (wrap64 (t207 + 1)) 2))) = true := decide_eq_true c18
                        clear c18
                        replace H := Option.bind_eq_some_iff.mp H
                        obtain ⟨t208, A190, H⟩ := H
                        replace H : (if t202 ≤ x11_3 then (if (t208 != (decide (x11_3 ≤ t203))) = true then (some false) else (laws_FnLeavesCover.l1 k3 t200 t201 t202 t203 (wrap64 (x11_3 + 1)))) else (if (t208 != false) = true then (some false) else (laws_FnLeavesCover.l1 k3 t200 t201 t202 t203 (wrap64 (x11_3 + 1))))) = some r := H
                        have A19 := Aside0.mk A190
                        clear A190
                        by_cases c20 : t202 ≤ x11_3
                        · rw [if_pos c20] at H
                          have c20b0 : decide (t202 ≤ x11_3) = true := decide_eq_true c20
                          clear c20
                          by_cases c21 : (t208 != (decide (x11_3 ≤ t203))) = true
                          · rw [if_pos c21] at H
                            have c21b0 : (t208 != (decide (x11_3 ≤ t203))) = true := c21
                            (try (have c21b1 : decide (t208 = (decide (x11_3 ≤ t203))) = false := by simpa using c21))
                            (try (have c21b2 : (t208 == (decide (x11_3 ≤ t203))) = false := by simpa using c21))
                            (try (have c21b3 : ¬ (t208 = (decide (x11_3 ≤ t203))) := by simpa using c21))
                            clear c21
                            obtain rfl := Option.some.inj H
                            go_wp2_with (first | ((with_reducible refine gate_callee (f := 16) rfl ?_); refine goesL_ (some 68) rfl rfl Try.func16 (by kernel_rfl) rfl #[.int .i64 t200] rfl (by (try simp only [List.map_toArray, List.map_cons, List.map_nil]); first | done | rfl | (simp only [List.length_drop, List.length_take]; rfl)) ?_; (with_reducible refine (impl_TreeNodes.calls t200 t207 _ A17.out).mono ?_); rintro e w' ⟨rfl, ⟨nd, rfl⟩⟩; refine ⟨_, rfl, ?_⟩) | ((with_reducible refine gate_callee (f := 27) rfl ?_); refine goesL_ (some 77) rfl rfl Try.func27 (by kernel_rfl) rfl #[.int .i64 t200, .int .i64 t201, .int .i64 x11_3] rfl (by (try simp only [List.map_toArray, List.map_cons, List.map_nil]); first | done | rfl | (simp only [List.length_drop, List.length_take]; rfl)) ?_; (with_reducible refine (impl_OnPath.calls t200 t201 x11_3 t208 _ A19.out).mono ?_); rintro e w' ⟨rfl, ⟨nd, rfl⟩⟩; refine ⟨_, rfl, ?_⟩))
                            go_ret
                            exact ⟨by first | rfl | (simp [errW_none, errW_some] <;> rfl) | (simp [*, errW_none, errW_some] <;> rfl), by repeat (first | (with_reducible first | exact HB.out | apply below_alloc | apply pw_below_drewN | apply below_drew1) | exact HB.out)⟩
                          · rw [if_neg c21] at H
                            have c21b0 : (t208 != (decide (x11_3 ≤ t203))) = false := by simpa using c21
                            (try (have c21b1 : decide (t208 = (decide (x11_3 ≤ t203))) = true := by simpa using c21))
                            (try (have c21b2 : (t208 == (decide (x11_3 ≤ t203))) = true := by simpa using c21))
                            clear c21
                            have H' := Aside0.mk H
                            clear H
                            go_wp2_with (first | ((with_reducible refine gate_callee (f := 16) rfl ?_); refine goesL_ (some 68) rfl rfl Try.func16 (by kernel_rfl) rfl #[.int .i64 t200] rfl (by (try simp only [List.map_toArray, List.map_cons, List.map_nil]); first | done | rfl | (simp only [List.length_drop, List.length_take]; rfl)) ?_; (with_reducible refine (impl_TreeNodes.calls t200 t207 _ A17.out).mono ?_); rintro e w' ⟨rfl, ⟨nd, rfl⟩⟩; refine ⟨_, rfl, ?_⟩) | ((with_reducible refine gate_callee (f := 27) rfl ?_); refine goesL_ (some 77) rfl rfl Try.func27 (by kernel_rfl) rfl #[.int .i64 t200, .int .i64 t201, .int .i64 x11_3] rfl (by (try simp only [List.map_toArray, List.map_cons, List.map_nil]); first | done | rfl | (simp only [List.length_drop, List.length_take]; rfl)) ?_; (with_reducible refine (impl_OnPath.calls t200 t201 x11_3 t208 _ A19.out).mono ?_); rintro e w' ⟨rfl, ⟨nd, rfl⟩⟩; refine ⟨_, rfl, ?_⟩))
                            go_roundg k3
                            case measure => have := HJ6.out; have := HK2.out; have := HK3.out; omega
                            case rel => exact ⟨(wrap64 (x11_3 + 1)), (by first | rfl | (simp; done) | (simp [*]; done)), H', ⟨by have := HJ6.out; have := HK2.out; have := HK3.out; omega⟩, ⟨by repeat (first | (with_reducible first | exact HB.out | apply below_alloc | apply pw_below_drewN | apply below_drew1) | exact HB.out)⟩⟩
                        · rw [if_neg c20] at H
                          have c20b0 : decide (t202 ≤ x11_3) = false := decide_eq_false c20
                          clear c20
                          by_cases c22 : (t208 != false) = true
                          · rw [if_pos c22] at H
                            have c22b0 : (t208 != false) = true := c22
                            (try (have c22b1 : decide (t208 = false) = false := by simpa using c22))
                            (try (have c22b2 : (t208 == false) = false := by simpa using c22))
                            (try (have c22b3 : ¬ (t208 = false) := by simpa using c22))
                            clear c22
                            obtain rfl := Option.some.inj H
                            go_wp2_with (first | ((with_reducible refine gate_callee (f := 16) rfl ?_); refine goesL_ (some 68) rfl rfl Try.func16 (by kernel_rfl) rfl #[.int .i64 t200] rfl (by (try simp only [List.map_toArray, List.map_cons, List.map_nil]); first | done | rfl | (simp only [List.length_drop, List.length_take]; rfl)) ?_; (with_reducible refine (impl_TreeNodes.calls t200 t207 _ A17.out).mono ?_); rintro e w' ⟨rfl, ⟨nd, rfl⟩⟩; refine ⟨_, rfl, ?_⟩) | ((with_reducible refine gate_callee (f := 27) rfl ?_); refine goesL_ (some 77) rfl rfl Try.func27 (by kernel_rfl) rfl #[.int .i64 t200, .int .i64 t201, .int .i64 x11_3] rfl (by (try simp only [List.map_toArray, List.map_cons, List.map_nil]); first | done | rfl | (simp only [List.length_drop, List.length_take]; rfl)) ?_; (with_reducible refine (impl_OnPath.calls t200 t201 x11_3 t208 _ A19.out).mono ?_); rintro e w' ⟨rfl, ⟨nd, rfl⟩⟩; refine ⟨_, rfl, ?_⟩))
                            go_ret
                            exact ⟨by first | rfl | (simp [errW_none, errW_some] <;> rfl) | (simp [*, errW_none, errW_some] <;> rfl), by repeat (first | (with_reducible first | exact HB.out | apply below_alloc | apply pw_below_drewN | apply below_drew1) | exact HB.out)⟩
                          · rw [if_neg c22] at H
                            have c22b0 : (t208 != false) = false := by simpa using c22
                            (try (have c22b1 : decide (t208 = false) = true := by simpa using c22))
                            (try (have c22b2 : (t208 == false) = true := by simpa using c22))
                            clear c22
                            have H' := Aside0.mk H
                            clear H
                            go_wp2_with (first | ((with_reducible refine gate_callee (f := 16) rfl ?_); refine goesL_ (some 68) rfl rfl Try.func16 (by kernel_rfl) rfl #[.int .i64 t200] rfl (by (try simp only [List.map_toArray, List.map_cons, List.map_nil]); first | done | rfl | (simp only [List.length_drop, List.length_take]; rfl)) ?_; (with_reducible refine (impl_TreeNodes.calls t200 t207 _ A17.out).mono ?_); rintro e w' ⟨rfl, ⟨nd, rfl⟩⟩; refine ⟨_, rfl, ?_⟩) | ((with_reducible refine gate_callee (f := 27) rfl ?_); refine goesL_ (some 77) rfl rfl Try.func27 (by kernel_rfl) rfl #[.int .i64 t200, .int .i64 t201, .int .i64 x11_3] rfl (by (try simp only [List.map_toArray, List.map_cons, List.map_nil]); first | done | rfl | (simp only [List.length_drop, List.length_take]; rfl)) ?_; (with_reducible refine (impl_OnPath.calls t200 t201 x11_3 t208 _ A19.out).mono ?_); rintro e w' ⟨rfl, ⟨nd, rfl⟩⟩; refine ⟨_, rfl, ?_⟩))
                            go_roundg k3
                            case measure => have := HJ6.out; have := HK2.out; have := HK3.out; omega
                            case rel => exact ⟨(wrap64 (x11_3 + 1)), (by first | rfl | (simp; done) | (simp [*]; done)), H', ⟨by have := HJ6.out; have := HK2.out; have := HK3.out; omega⟩, ⟨by repeat (first | (with_reducible first | exact HB.out | apply below_alloc | apply pw_below_drewN | apply below_drew1) | exact HB.out)⟩⟩
                      · rw [if_neg c18] at H
                        have c18b0 : decide (x11_3 < (wrap64 (Int.tdiv (wrap64 (t207 + 1)) 2))) = false := decide_eq_false c18
                        clear c18
                        obtain rfl := Option.some.inj H
                        go_wp2_with (first | ((with_reducible refine gate_callee (f := 16) rfl ?_); refine goesL_ (some 68) rfl rfl Try.func16 (by kernel_rfl) rfl #[.int .i64 t200] rfl (by (try simp only [List.map_toArray, List.map_cons, List.map_nil]); first | done | rfl | (simp only [List.length_drop, List.length_take]; rfl)) ?_; (with_reducible refine (impl_TreeNodes.calls t200 t207 _ A17.out).mono ?_); rintro e w' ⟨rfl, ⟨nd, rfl⟩⟩; refine ⟨_, rfl, ?_⟩))
                        go_ret
                        exact ⟨by first | rfl | (simp [errW_none, errW_some] <;> rfl) | (simp [*, errW_none, errW_some] <;> rfl), by repeat (first | (with_reducible first | exact HB.out | apply below_alloc | apply pw_below_drewN | apply below_drew1) | exact HB.out)⟩
                · rw [if_neg c16] at H
                  have c16b0 : ((wrap64 ((wrap64 (t203 - t202)) + 1)) == x9_2) = false := beq_eq_false_iff_ne.mpr c16
                  have c16b1 : ((wrap64 ((wrap64 (t203 - t202)) + 1)) != x9_2) = true := bne_iff_ne.mpr c16
                  obtain rfl := Option.some.inj H
                  go_wp2
                  go_ret
                  exact ⟨by first | rfl | (simp [errW_none, errW_some] <;> rfl) | (simp [*, errW_none, errW_some] <;> rfl), by repeat (first | (with_reducible first | exact HB.out | apply below_alloc | apply pw_below_drewN | apply below_drew1) | exact HB.out)⟩

/-- THE ONE PURE STATEMENT of laws_FnLeavesCover: yours. -/
def laws_FnLeavesCover.Pure : Prop := ∀ (l0 : List Int), l0.length ≤ maxLen → l0.length * 1 ≤ 140737488351232 → (∀ x ∈ l0, (Lit.int .u8 x).wf = true) → ∃ k, laws_FnLeavesCover.f k l0 = some true
theorem laws_FnLeavesCover.walk (P : laws_FnLeavesCover.Pure) (a0 : Option Addr) (len0 cap0 : Nat) (z0 : List Int) (w : World) (w0 : (a0 = none ∧ len0 = 0 ∧ cap0 = 0 ∧ z0 = []) ∨ ∃ x, a0 = some x ∧ len0 ≤ cap0 ∧ cap0 ≤ maxLen ∧ z0.length = cap0 ∧ (∀ i, i < z0.length → w.cell? (x.add i) = some (.int .u8 (z0.getD i 0))) ∧ ∀ n ∈ z0, (Lit.int .u8 n).wf = true) (y0 : len0 * 1 ≤ 140737488351232) :
    Calls Try.prog 11 #[.slice a0 len0 cap0] w fun e w' => e = .returned (.bool true) ∧ Below w.heap.size w w' := by
  obtain ⟨l0, rfl, hr0, hm0, hw0, hc0⟩ := ReadsInt.ofRowC w0
  obtain ⟨k, h⟩ := P l0 hm0 y0 hw0
  refine (laws_FnLeavesCover.calls k _ _ l0 true w (Kd.C_of_reads (d := (0 : Int)) (h1 := fun _ => rfl) hr0) hc0 h).mono ?_
  rintro e w' ⟨rfl, hd⟩
  exact ⟨rfl, hd⟩

end Go.Proofs.Ytccoipncjfgbeaa.PFnLeavesCover

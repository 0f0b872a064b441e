-- Laid by a program of this session: what the print of the kit writes, and contracts of the session where the print takes no function. Lean checks it.
import Derived.Test.YtggfndobfpmoaaaPFnEvictedx0
import Derived.Test.YtggfndobfpmoaaaPFnEvictedx1
import Derived.Test.YtggfndobfpmoaaaPFnEvictedx2
import Derived.Test.YtggfndobfpmoaaaPFnEvictedx5
import Derived.Test.YtggfndobfpmoaaaPFnEvictedx8
import Derived.Test.YtggfndobfpmoaaaPFnEvictedx9
import Derived.Test.YtggfndobfpmoaaaPFnEvictedx13
namespace Go.Proofs.Ytggfndobfpmoaaa.PFnEvicted
open Go.RowKit Go.Proofs.YtggfndobfpmoaaaW.PrintWords Go.Proofs.YtggfndobfpmoaaaW.PrintLast Go.Proofs.YtggfndobfpmoaaaW.PrintMore
attribute [local go_sem] max2_int min2_int max_two min_two max_three min_three max_four min_four   -- for this text's walks alone
set_option linter.unusedVariables false
set_option linter.unusedSimpArgs false

/-! ### laws_FnEvicted: function 8 -/
mutual
def laws_FnEvicted.l0 : Nat → List (S26) → Int → Int → Int → List (S67) → List Int → List Int → Int → Option (Bool)
  | 0, _, _, _, _, _, _, _, _ => none
  | k + 1, x3, x4, x5, x6, x8, x9, x10, x11 => if x11 < (x3.length : Int) then (if 0 ≤ x11 then (if x11 < (x10.length : Int) then (laws_FnEvicted.l0 k x3 x4 x5 x6 x8 x9 (x10.set (x11 : Int).toNat (-1)) (wrap64 (x11 + 1))) else (none)) else (none)) else (laws_FnEvicted.l1 k x3 x4 x5 x6 x8 x9 x10 0)
def laws_FnEvicted.l1 : Nat → List (S26) → Int → Int → Int → List (S67) → List Int → List Int → Int → Option (Bool)
  | 0, _, _, _, _, _, _, _, _ => none
  | k + 1, x3, x4, x5, x6, x8, x9, x10, x12 => if x12 < (x8.length : Int) then (if 0 ≤ x12 then (if ((rd_T67 x8 x12).f0) < 0 then (some false) else (if ((rd_T67 x8 x12).f0) > x4 then (some false) else (if 0 ≤ ((rd_T67 x8 x12).f0) then (if ((rd_T67 x8 x12).f0) < (x9.length : Int) then (laws_FnEvicted.l2 k x3 x4 x5 x6 x8 (x9.set (((rd_T67 x8 x12).f0) : Int).toNat (wrap64 ((rd x9 ((rd_T67 x8 x12).f0)) + 1))) x10 x12 0) else (none)) else (none)))) else (none)) else (laws_FnEvicted.l3 k x3 x4 x5 x6 x8 x9 x10 0)
def laws_FnEvicted.l2 : Nat → List (S26) → Int → Int → Int → List (S67) → List Int → List Int → Int → Int → Option (Bool)
  | 0, _, _, _, _, _, _, _, _, _ => none
  | k + 1, x3, x4, x5, x6, x8, x9, x10, x12, x13 => if x13 < (x3.length : Int) then (if 0 ≤ x13 then (if 0 ≤ x12 then (if x12 < (x8.length : Int) then (if ((rd_T26 x3 x13).f0) = ((rd_T67 x8 x12).f1) then (if x13 < (x10.length : Int) then (if (rd x10 x13) ≥ 0 then (some false) else ((spec_PathNodes.f k x4 x6).bind fun t447 => (if 0 ≤ ((rd_T67 x8 x12).f0) then (if ((rd_T67 x8 x12).f0) < (t447.length : Int) then ((spec_OnPath.f k x4 (rd t447 ((rd_T67 x8 x12).f0)) ((rd_T26 x3 x13).f1)).bind fun t453 => (if t453 = true then (laws_FnEvicted.l2 k x3 x4 x5 x6 x8 x9 (x10.set (x13 : Int).toNat ((rd_T67 x8 x12).f0)) x12 (wrap64 (x13 + 1))) else (some false))) else (none)) else (none)))) else (none)) else (laws_FnEvicted.l2 k x3 x4 x5 x6 x8 x9 x10 x12 (wrap64 (x13 + 1)))) else (none)) else (none)) else (none)) else (laws_FnEvicted.l1 k x3 x4 x5 x6 x8 x9 x10 (wrap64 (x12 + 1)))
def laws_FnEvicted.l3 : Nat → List (S26) → Int → Int → Int → List (S67) → List Int → List Int → Int → Option (Bool)
  | 0, _, _, _, _, _, _, _, _ => none
  | k + 1, x3, x4, x5, x6, x8, x9, x10, x14 => if x14 < (x3.length : Int) then (if 0 ≤ x14 then (if x14 < (x10.length : Int) then (laws_FnEvicted.l4 k x3 x4 x5 x6 x8 x9 x10 x14 (wrap64 ((rd x10 x14) + 1))) else (none)) else (none)) else (laws_FnEvicted.l5 k x3 x4 x5 x6 x8 x9 0)
def laws_FnEvicted.l4 : Nat → List (S26) → Int → Int → Int → List (S67) → List Int → List Int → Int → Int → Option (Bool)
  | 0, _, _, _, _, _, _, _, _, _ => none
  | k + 1, x3, x4, x5, x6, x8, x9, x10, x14, x15 => if 0 ≤ x14 then (if x14 < (x3.length : Int) then ((spec_Meet.f k x4 ((rd_T26 x3 x14).f1) x6).bind fun t458 => (if x15 ≤ t458 then (if 0 ≤ x15 then (if x15 < (x9.length : Int) then (if (rd x9 x15) < 4 then (some false) else (laws_FnEvicted.l4 k x3 x4 x5 x6 x8 x9 x10 x14 (wrap64 (x15 + 1)))) else (none)) else (none)) else (laws_FnEvicted.l3 k x3 x4 x5 x6 x8 x9 x10 (wrap64 (x14 + 1))))) else (none)) else (none)
def laws_FnEvicted.l5 : Nat → List (S26) → Int → Int → Int → List (S67) → List Int → Int → Option (Bool)
  | 0, _, _, _, _, _, _, _ => none
  | k + 1, x3, x4, x5, x6, x8, x9, x16 => if x16 ≤ x4 then (if 0 ≤ x16 then (if x16 < (x9.length : Int) then (if (rd x9 x16) > 4 then (some false) else (laws_FnEvicted.l5 k x3 x4 x5 x6 x8 x9 (wrap64 (x16 + 1)))) else (none)) else (none)) else ((impl_EvictRest.f k x3 x4 x5 x6).bind fun t461 => (some ((t461.length : Int) == (wrap64 ((x3.length : Int) - (x8.length : Int))))))
end
def laws_FnEvicted.f (k : Nat) (l0 : List Int) : Option (Bool) := (laws_big.f l0).bind fun t417 => (if t417 = true then (some true) else ((spec_DrawEvictPlan.f k l0).bind fun bt418 => ((spec_EvictPlan.f k bt418.1 bt418.2.1 bt418.2.2.1 bt418.2.2.2).bind fun t424 => ((impl_EvictPlan.f k bt418.1 bt418.2.1 bt418.2.2.1 bt418.2.2.2).bind fun t427 => (if (t427.length : Int) = (t424.length : Int) then ((spec_StashOk.f k bt418.1 bt418.2.1 bt418.2.2.1).bind fun t430 => (if t430 = true then ((spec_Meet.f k bt418.2.1 bt418.2.2.2 bt418.2.2.2).bind fun t431 => (if t431 < 0 then (some ((t427.length : Int) == (t424.length : Int))) else (if 0 ≤ (wrap64 (bt418.2.1 + 1)) then (if (wrap64 (bt418.2.1 + 1) : Int).toNat ≤ 35184372088832 then (if 0 ≤ (bt418.1.length : Int) then (if ((bt418.1.length : Int) : Int).toNat ≤ 35184372088832 then (laws_FnEvicted.l0 k bt418.1 bt418.2.1 bt418.2.2.1 bt418.2.2.2 t427 (List.replicate (wrap64 (bt418.2.1 + 1) : Int).toNat 0) (List.replicate ((bt418.1.length : Int) : Int).toNat 0) 0) else (none)) else (none)) else (none)) else (none)))) else (some ((t427.length : Int) == (t424.length : Int))))) else (some ((t427.length : Int) == (t424.length : Int))))))))
theorem laws_FnEvicted.mono_l : ∀ k, (∀ y0 y1 y2 y3 y4 y5 y6 y7, LeO (laws_FnEvicted.l0 k y0 y1 y2 y3 y4 y5 y6 y7) (laws_FnEvicted.l0 (k + 1) y0 y1 y2 y3 y4 y5 y6 y7)) ∧ (∀ y0 y1 y2 y3 y4 y5 y6 y7, LeO (laws_FnEvicted.l1 k y0 y1 y2 y3 y4 y5 y6 y7) (laws_FnEvicted.l1 (k + 1) y0 y1 y2 y3 y4 y5 y6 y7)) ∧ (∀ y0 y1 y2 y3 y4 y5 y6 y7 y8, LeO (laws_FnEvicted.l2 k y0 y1 y2 y3 y4 y5 y6 y7 y8) (laws_FnEvicted.l2 (k + 1) y0 y1 y2 y3 y4 y5 y6 y7 y8)) ∧ (∀ y0 y1 y2 y3 y4 y5 y6 y7, LeO (laws_FnEvicted.l3 k y0 y1 y2 y3 y4 y5 y6 y7) (laws_FnEvicted.l3 (k + 1) y0 y1 y2 y3 y4 y5 y6 y7)) ∧ (∀ y0 y1 y2 y3 y4 y5 y6 y7 y8, LeO (laws_FnEvicted.l4 k y0 y1 y2 y3 y4 y5 y6 y7 y8) (laws_FnEvicted.l4 (k + 1) y0 y1 y2 y3 y4 y5 y6 y7 y8)) ∧ (∀ y0 y1 y2 y3 y4 y5 y6, LeO (laws_FnEvicted.l5 k y0 y1 y2 y3 y4 y5 y6) (laws_FnEvicted.l5 (k + 1) y0 y1 y2 y3 y4 y5 y6))
  | 0 => ⟨fun _ _ _ _ _ _ _ _ r h => by simp [laws_FnEvicted.l0] at h, fun _ _ _ _ _ _ _ _ r h => by simp [laws_FnEvicted.l1] at h, fun _ _ _ _ _ _ _ _ _ r h => by simp [laws_FnEvicted.l2] at h, fun _ _ _ _ _ _ _ _ r h => by simp [laws_FnEvicted.l3] at h, fun _ _ _ _ _ _ _ _ _ r h => by simp [laws_FnEvicted.l4] at h, fun _ _ _ _ _ _ _ r h => by simp [laws_FnEvicted.l5] at h⟩
  | k + 1 => by
    obtain ⟨ih0, ih1, ih2, ih3, ih4, ih5⟩ := laws_FnEvicted.mono_l k
    refine ⟨?_, ?_, ?_, ?_, ?_, ?_⟩
    · intro y0 y1 y2 y3 y4 y5 y6 y7
      unfold laws_FnEvicted.l0
      repeat' first | (with_reducible exact ih0 _ _ _ _ _ _ _ _) | (with_reducible exact ih1 _ _ _ _ _ _ _ _) | (with_reducible exact LeO.refl _) | (with_reducible refine LeO.ite ?_ ?_)
    · intro y0 y1 y2 y3 y4 y5 y6 y7
      unfold laws_FnEvicted.l1
      repeat' first | (with_reducible exact ih2 _ _ _ _ _ _ _ _ _) | (with_reducible exact ih3 _ _ _ _ _ _ _ _) | (with_reducible exact LeO.refl _) | (with_reducible refine LeO.ite ?_ ?_)
    · intro y0 y1 y2 y3 y4 y5 y6 y7 y8
      unfold laws_FnEvicted.l2
      repeat' first | (with_reducible exact ih1 _ _ _ _ _ _ _ _) | (with_reducible exact ih2 _ _ _ _ _ _ _ _ _) | (with_reducible exact spec_OnPath.mono _ _ _ _) | (with_reducible exact spec_PathNodes.mono _ _ _) | (with_reducible exact LeO.refl _) | (with_reducible refine LeO.ite ?_ ?_) | (with_reducible refine LeO.bind ?_ (fun _ => ?_))
    · intro y0 y1 y2 y3 y4 y5 y6 y7
      unfold laws_FnEvicted.l3
      repeat' first | (with_reducible exact ih4 _ _ _ _ _ _ _ _ _) | (with_reducible exact ih5 _ _ _ _ _ _ _) | (with_reducible exact LeO.refl _) | (with_reducible refine LeO.ite ?_ ?_)
    · intro y0 y1 y2 y3 y4 y5 y6 y7 y8
      unfold laws_FnEvicted.l4
      repeat' first | (with_reducible exact ih3 _ _ _ _ _ _ _ _) | (with_reducible exact ih4 _ _ _ _ _ _ _ _ _) | (with_reducible exact spec_Meet.mono _ _ _ _) | (with_reducible exact LeO.refl _) | (with_reducible refine LeO.ite ?_ ?_) | (with_reducible refine LeO.bind ?_ (fun _ => ?_))
    · intro y0 y1 y2 y3 y4 y5 y6
      unfold laws_FnEvicted.l5
      repeat' first | (with_reducible exact ih5 _ _ _ _ _ _ _) | (with_reducible exact impl_EvictRest.mono _ _ _ _ _) | (with_reducible exact LeO.refl _) | (with_reducible refine LeO.ite ?_ ?_) | (with_reducible refine LeO.bind ?_ (fun _ => ?_))
theorem laws_FnEvicted.mono : ∀ a0 k, LeO (laws_FnEvicted.f k a0) (laws_FnEvicted.f (k + 1) a0) := by
  intro a0 k
  obtain ⟨ih0, ih1, ih2, ih3, ih4, ih5⟩ := laws_FnEvicted.mono_l k
  unfold laws_FnEvicted.f
  repeat' first | (with_reducible exact ih0 _ _ _ _ _ _ _ _) | (with_reducible exact impl_EvictPlan.mono _ _ _ _ _) | (with_reducible exact spec_DrawEvictPlan.mono _ _) | (with_reducible exact spec_EvictPlan.mono _ _ _ _ _) | (with_reducible exact spec_Meet.mono _ _ _ _) | (with_reducible exact spec_StashOk.mono _ _ _ _) | (with_reducible exact LeO.refl _) | (with_reducible refine LeO.ite ?_ ?_) | (with_reducible refine LeO.bind ?_ (fun _ => ?_))
def laws_FnEvicted.T23 : Bool × List (List Nat × List Nat) := (true, [([], []), ([], []), ([0, 1], [0, 1]), ([2], [2]), ([3], [3]), ([], []), ([], []), ([5, 6], [5, 6]), ([7], [7]), ([8], [8]), ([4, 9], [4, 9])])
def laws_FnEvicted.B23 : List Nat := [0, 0, 3, 7, 15, 0, 0, 96, 224, 480, 1023]
theorem laws_FnEvicted.tab23 : rtab .any (opsOf Try.f8 23) = laws_FnEvicted.T23 := by kernel_rfl
theorem laws_FnEvicted.bits23 : waitsOk laws_FnEvicted.T23.2 laws_FnEvicted.B23 = true := by kernel_rfl
def laws_FnEvicted.T24 : Bool × List (List Nat × List Nat) := (true, [([], []), ([], []), ([0, 1], [0, 1]), ([2], [2]), ([3], [3]), ([4], [4]), ([5], [5]), ([5], [5]), ([5], [5]), ([7, 8, 5, 5], [5, 7, 8]), ([5], [5]), ([5], [5]), ([10, 11, 5], [5, 10, 11]), ([12, 5], [5, 12]), ([13, 5], [5, 13]), ([9, 14, 5], [5, 9, 14]), ([15, 5], [5, 15]), ([5], [5]), ([5], [5]), ([17, 18, 5], [5, 17, 18]), ([19, 5], [5, 19]), ([20, 5], [5, 20]), ([6, 16, 21, 9, 5], [5, 6, 16, 21]), ([22, 5], [5, 22]), ([5, 23], [5, 23])])
def laws_FnEvicted.B24 : List Nat := [0, 0, 3, 7, 15, 31, 63, 63, 63, 447, 63, 63, 3135, 7231, 15423, 32703, 65471, 63, 63, 393279, 917567, 1966143, 4194303, 8388607, 16777215]
theorem laws_FnEvicted.tab24 : rtab .any (opsOf Try.f8 24) = laws_FnEvicted.T24 := by kernel_rfl
theorem laws_FnEvicted.bits24 : waitsOk laws_FnEvicted.T24.2 laws_FnEvicted.B24 = true := by kernel_rfl
set_option maxHeartbeats 8000000 in
set_option maxRecDepth 100000 in
theorem laws_FnEvicted.calls (k : Nat) (A0 : Option Addr) (c0 : Nat) (l0 : List Int) (r : Bool) (w : World) (hr0 : Kd.C (Kd.int .u8) w A0 l0.length l0) (hc0 : l0.length ≤ c0) (h : laws_FnEvicted.f k l0 = some r) (hT_ : r = true := by rfl) :
    Calls Try.prog 8 #[.slice A0 l0.length c0] w fun e w' => e = .returned (.bool r) ∧ Below w.heap.size w w' := by
 have HTRUE_ := Aside0.mk hT_
 clear hT_
 have HR0 := Aside0.mk hr0
 have HC0 := Aside0.mk hc0
 clear hr0 hc0
 have HB := Aside0.mk (Below.refl w.heap.size w)
 have H : ((laws_big.f l0).bind fun t417 => (if t417 = true then (some true) else ((spec_DrawEvictPlan.f k l0).bind fun bt418 => ((spec_EvictPlan.f k bt418.1 bt418.2.1 bt418.2.2.1 bt418.2.2.2).bind fun t424 => ((impl_EvictPlan.f k bt418.1 bt418.2.1 bt418.2.2.1 bt418.2.2.2).bind fun t427 => (if (t427.length : Int) = (t424.length : Int) then ((spec_StashOk.f k bt418.1 bt418.2.1 bt418.2.2.1).bind fun t430 => (if t430 = true then ((spec_Meet.f k bt418.2.1 bt418.2.2.2 bt418.2.2.2).bind fun t431 => (if t431 < 0 then (some ((t427.length : Int) == (t424.length : Int))) else (if 0 ≤ (wrap64 (bt418.2.1 + 1)) then (if (wrap64 (bt418.2.1 + 1) : Int).toNat ≤ 35184372088832 then (if 0 ≤ (bt418.1.length : Int) then (if ((bt418.1.length : Int) : Int).toNat ≤ 35184372088832 then (laws_FnEvicted.l0 k bt418.1 bt418.2.1 bt418.2.2.1 bt418.2.2.2 t427 (List.replicate (wrap64 (bt418.2.1 + 1) : Int).toNat 0) (List.replicate ((bt418.1.length : Int) : Int).toNat 0) 0) else (none)) else (none)) else (none)) else (none)))) else (some ((t427.length : Int) == (t424.length : Int))))) else (some ((t427.length : Int) == (t424.length : Int))))))))) = some r := h
 clear h
 replace H := Option.bind_eq_some_iff.mp H
 obtain ⟨t417, A20, H⟩ := H
 replace H : (if t417 = true then (some true) else ((spec_DrawEvictPlan.f k l0).bind fun bt418 => ((spec_EvictPlan.f k bt418.1 bt418.2.1 bt418.2.2.1 bt418.2.2.2).bind fun t424 => ((impl_EvictPlan.f k bt418.1 bt418.2.1 bt418.2.2.1 bt418.2.2.2).bind fun t427 => (if (t427.length : Int) = (t424.length : Int) then ((spec_StashOk.f k bt418.1 bt418.2.1 bt418.2.2.1).bind fun t430 => (if t430 = true then ((spec_Meet.f k bt418.2.1 bt418.2.2.2 bt418.2.2.2).bind fun t431 => (if t431 < 0 then (some ((t427.length : Int) == (t424.length : Int))) else (if 0 ≤ (wrap64 (bt418.2.1 + 1)) then (if (wrap64 (bt418.2.1 + 1) : Int).toNat ≤ 35184372088832 then (if 0 ≤ (bt418.1.length : Int) then (if ((bt418.1.length : Int) : Int).toNat ≤ 35184372088832 then (laws_FnEvicted.l0 k bt418.1 bt418.2.1 bt418.2.2.1 bt418.2.2.2 t427 (List.replicate (wrap64 (bt418.2.1 + 1) : Int).toNat 0) (List.replicate ((bt418.1.length : Int) : Int).toNat 0) 0) else (none)) else (none)) else (none)) else (none)))) else (some ((t427.length : Int) == (t424.length : Int))))) else (some ((t427.length : Int) == (t424.length : Int)))))))) = some r := H
 have A2 := Aside0.mk A20
 clear A20
 by_cases c3 : t417 = true
 ·
  subst c3
  have H1 : (some true) = some r := by rw [if_pos rfl] at H; exact H
  clear H
  have H := H1
  clear H1
  obtain rfl := Option.some.inj H
  go_enter Try.func8, Try.ntmps8
  go_wp2_with (((with_reducible refine gate_callee (f := 18) rfl ?_); refine goesL_ (some 18) rfl rfl Try.func18 (by kernel_rfl) rfl #[.slice A0 l0.length c0] rfl (by (try simp only [List.map_toArray, List.map_cons, List.map_nil]); rfl) ?_; (with_reducible refine (laws_big.calls _ _ l0 true _ ?side1 ?side2 A2.out).mono ?_); (case side1 => repeat (exact HR0.out)); (case side2 => exact HC0.out); rintro e w' ⟨rfl, ⟨nd, rfl⟩⟩; refine ⟨_, rfl, ?_⟩))
  go_ret
  exact ⟨by rfl, by repeat ((with_reducible first | exact HB.out | apply pw_below_drewN))⟩
 replace c3 := Bool.eq_false_iff.mpr c3
 subst c3
 have H1 : ((spec_DrawEvictPlan.f k l0).bind fun bt418 => ((spec_EvictPlan.f k bt418.1 bt418.2.1 bt418.2.2.1 bt418.2.2.2).bind fun t424 => ((impl_EvictPlan.f k bt418.1 bt418.2.1 bt418.2.2.1 bt418.2.2.2).bind fun t427 => (if (t427.length : Int) = (t424.length : Int) then ((spec_StashOk.f k bt418.1 bt418.2.1 bt418.2.2.1).bind fun t430 => (if t430 = true then ((spec_Meet.f k bt418.2.1 bt418.2.2.2 bt418.2.2.2).bind fun t431 => (if t431 < 0 then (some ((t427.length : Int) == (t424.length : Int))) else (if 0 ≤ (wrap64 (bt418.2.1 + 1)) then (if (wrap64 (bt418.2.1 + 1) : Int).toNat ≤ 35184372088832 then (if 0 ≤ (bt418.1.length : Int) then (if ((bt418.1.length : Int) : Int).toNat ≤ 35184372088832 then (laws_FnEvicted.l0 k bt418.1 bt418.2.1 bt418.2.2.1 bt418.2.2.2 t427 (List.replicate (wrap64 (bt418.2.1 + 1) : Int).toNat 0) (List.replicate ((bt418.1.length : Int) : Int).toNat 0) 0) else (none)) else (none)) else (none)) else (none)))) else (some ((t427.length : Int) == (t424.length : Int))))) else (some ((t427.length : Int) == (t424.length : Int))))))) = some r := by rw [if_neg (show ¬ (false = true) by decide)] at H; exact H
 clear H
 have H := H1
 clear H1
 replace H := Option.bind_eq_some_iff.mp H
 obtain ⟨⟨t418, t419, t420, t421⟩, A40, H⟩ := H
 replace H : ((spec_EvictPlan.f k t418 t419 t420 t421).bind fun t424 => ((impl_EvictPlan.f k t418 t419 t420 t421).bind fun t427 => (if (t427.length : Int) = (t424.length : Int) then ((spec_StashOk.f k t418 t419 t420).bind fun t430 => (if t430 = true then ((spec_Meet.f k t419 t421 t421).bind fun t431 => (if t431 < 0 then (some ((t427.length : Int) == (t424.length : Int))) else (if 0 ≤ (wrap64 (t419 + 1)) then (if (wrap64 (t419 + 1) : Int).toNat ≤ 35184372088832 then (if 0 ≤ (t418.length : Int) then (if ((t418.length : Int) : Int).toNat ≤ 35184372088832 then (laws_FnEvicted.l0 k t418 t419 t420 t421 t427 (List.replicate (wrap64 (t419 + 1) : Int).toNat 0) (List.replicate ((t418.length : Int) : Int).toNat 0) 0) else (none)) else (none)) else (none)) else (none)))) else (some ((t427.length : Int) == (t424.length : Int))))) else (some ((t427.length : Int) == (t424.length : Int)))))) = some r := H
 have A4 := Aside0.mk A40
 clear A40
 replace H := Option.bind_eq_some_iff.mp H
 obtain ⟨t424, A50, H⟩ := H
 replace H : ((impl_EvictPlan.f k t418 t419 t420 t421).bind fun t427 => (if (t427.length : Int) = (t424.length : Int) then ((spec_StashOk.f k t418 t419 t420).bind fun t430 => (if t430 = true then ((spec_Meet.f k t419 t421 t421).bind fun t431 => (if t431 < 0 then (some ((t427.length : Int) == (t424.length : Int))) else (if 0 ≤ (wrap64 (t419 + 1)) then (if (wrap64 (t419 + 1) : Int).toNat ≤ 35184372088832 then (if 0 ≤ (t418.length : Int) then (if ((t418.length : Int) : Int).toNat ≤ 35184372088832 then (laws_FnEvicted.l0 k t418 t419 t420 t421 t427 (List.replicate (wrap64 (t419 + 1) : Int).toNat 0) (List.replicate ((t418.length : Int) : Int).toNat 0) 0) else (none)) else (none)) else (none)) else (none)))) else (some ((t427.length : Int) == (t424.length : Int))))) else (some ((t427.length : Int) == (t424.length : Int))))) = some r := H
 have A5 := Aside0.mk A50
 clear A50
 replace H := Option.bind_eq_some_iff.mp H
 obtain ⟨t427, A60, H⟩ := H
 replace H : (if (t427.length : Int) = (t424.length : Int) then ((spec_StashOk.f k t418 t419 t420).bind fun t430 => (if t430 = true then ((spec_Meet.f k t419 t421 t421).bind fun t431 => (if t431 < 0 then (some ((t427.length : Int) == (t424.length : Int))) else (if 0 ≤ (wrap64 (t419 + 1)) then (if (wrap64 (t419 + 1) : Int).toNat ≤ 35184372088832 then (if 0 ≤ (t418.length : Int) then (if ((t418.length : Int) : Int).toNat ≤ 35184372088832 then (laws_FnEvicted.l0 k t418 t419 t420 t421 t427 (List.replicate (wrap64 (t419 + 1) : Int).toNat 0) (List.replicate ((t418.length : Int) : Int).toNat 0) 0) else (none)) else (none)) else (none)) else (none)))) else (some ((t427.length : Int) == (t424.length : Int))))) else (some ((t427.length : Int) == (t424.length : Int)))) = some r := H
 have A6 := Aside0.mk A60
 clear A60
 by_cases c7 : (t427.length : Int) = (t424.length : Int)
 rotate_left
 ·
  rw [if_neg c7] at H
  have c7b0 : ((t427.length : Int) == (t424.length : Int)) = false := beq_eq_false_iff_ne.mpr c7
  have c7b1 : ((t427.length : Int) != (t424.length : Int)) = true := bne_iff_ne.mpr c7
  have c7b2 : (t427.length == t424.length) = false := by (simp at c7 ⊢; omega)
  obtain rfl := Option.some.inj H
  go_enter Try.func8, Try.ntmps8
  go_wp2_with (first | ((with_reducible refine gate_callee (f := 18) rfl ?_); refine goesL_ (some 18) rfl rfl Try.func18 (by kernel_rfl) rfl #[.slice A0 l0.length c0] rfl (by (try simp only [List.map_toArray, List.map_cons, List.map_nil]); rfl) ?_; (with_reducible refine (laws_big.calls _ _ l0 false _ ?side1 ?side2 A2.out).mono ?_); (case side1 => repeat (exact HR0.out)); (case side2 => exact HC0.out); rintro e w' ⟨rfl, ⟨nd, rfl⟩⟩; refine ⟨_, rfl, ?_⟩) | ((with_reducible refine gate_callee (f := 40) rfl ?_); refine goesL_ (some 21) rfl rfl Try.func40 (by kernel_rfl) rfl #[.slice A0 l0.length c0] rfl (by (try simp only [List.map_toArray, List.map_cons, List.map_nil]); rfl) ?_; (with_reducible refine (spec_DrawEvictPlan.calls k _ _ l0 t418 t419 t420 t421 _ ?side1 ?side2 A4.out).mono ?_); (case side1 => repeat (exact HR0.out)); (case side2 => exact HC0.out); rintro e w104 ⟨v422, rfl, ho0, hb⟩; refine ⟨_, rfl, ?_⟩; have n0_ := Aside0.mk (Kd.S_lower (deep_new ho0) (below_size (by repeat ((with_reducible first | exact HB.out | apply pw_below_drewN))))); have n1_ := Aside0.mk (below_step (by repeat ((with_reducible first | exact HB.out | apply pw_below_drewN))) hb); clear HB; have HO423 := n0_; have HB := n1_; clear n0_ n1_; (try clear hb); (try clear hb2); (try clear hk); (try clear hi); (try clear ho0); obtain ⟨Ao105, co105, eo105⟩ := Kd.S_slice HO423.out; subst eo105) | ((with_reducible refine gate_callee (f := 41) rfl ?_); refine goesL_ (some 30) rfl rfl Try.func41 (by kernel_rfl) rfl #[.slice Ao105 t418.length co105, .int .i64 t419, .int .i64 t420, .int .i64 t421] rfl (by (try simp only [List.map_toArray, List.map_cons, List.map_nil]); rfl) ?_; (with_reducible refine (spec_EvictPlan.calls k _ _ t418 t419 t420 t421 t424 _ ?side1 ?side2 A5.out).mono ?_); (case side1 => repeat (exact (Kd.S_reads' HO423.out).2.2)); (case side2 => exact (Kd.S_reads' HO423.out).2.1); rintro e w106 ⟨v425, rfl, ho0, hb⟩; refine ⟨_, rfl, ?_⟩; have n0_ := Aside0.mk (Kd.S_below (by (with_reducible repeat (first | apply Kd.S_alloc | apply Kd.S_drewN | apply Kd.S_drew)); exact HO423.out) hb); have n1_ := Aside0.mk (Kd.R_lower ho0 (below_size (by repeat ((with_reducible exact HB.out))))); have n2_ := Aside0.mk (below_step (by repeat ((with_reducible exact HB.out))) hb); clear HO423; clear HB; have HO423 := n0_; have HO426 := n1_; have HB := n2_; clear n0_ n1_ n2_; (try clear hb); (try clear hb2); (try clear hk); (try clear hi); (try clear ho0)) | ((with_reducible refine gate_callee (f := 42) rfl ?_); refine goesL_ (some 35) rfl rfl Try.func42 (by kernel_rfl) rfl #[.slice Ao105 t418.length co105, .int .i64 t419, .int .i64 t420, .int .i64 t421] rfl (by (try simp only [List.map_toArray, List.map_cons, List.map_nil]); rfl) ?_; (with_reducible refine (impl_EvictPlan.calls k _ _ t418 t419 t420 t421 t427 _ ?side1 ?side2 A6.out).mono ?_); (case side1 => repeat (exact (Kd.S_reads' HO423.out).2.2)); (case side2 => exact (Kd.S_reads' HO423.out).2.1); rintro e w107 ⟨v428, rfl, ho0, hb⟩; refine ⟨_, rfl, ?_⟩; have n0_ := Aside0.mk (Kd.S_below (by (with_reducible repeat (first | apply Kd.S_alloc | apply Kd.S_drewN | apply Kd.S_drew)); exact HO423.out) hb); have n1_ := Aside0.mk (Kd.R_elder' (by (with_reducible repeat (first | apply Kd.R_alloc | apply Kd.R_drewN | apply Kd.R_drew)); exact HO426.out) (Kd.R_base ho0) hb); have n2_ := Aside0.mk (Kd.R_lower (Kd.R_new' ho0 (Kd.R_lt (by (with_reducible repeat (first | apply Kd.R_alloc | apply Kd.R_drewN | apply Kd.R_drew)); exact HO426.out))) (below_size (by repeat ((with_reducible exact HB.out))))); have n3_ := Aside0.mk (below_step (by repeat ((with_reducible exact HB.out))) hb); clear HO423; clear HO426; clear HB; have HO423 := n0_; have HO426 := n1_; have HO429 := n2_; have HB := n3_; clear n0_ n1_ n2_ n3_; (try clear hb); (try clear hb2); (try clear hk); (try clear hi); (try clear ho0); obtain ⟨Ao108, co108, eo108⟩ := Kd.R_slice HO429.out; subst eo108; obtain ⟨Ao109, co109, eo109⟩ := Kd.R_slice HO426.out; subst eo109))
  go_ret
  exact ⟨by rfl, by repeat ((with_reducible exact HB.out))⟩
 rw [if_pos c7] at H
 have c7b0 : ((t427.length : Int) == (t424.length : Int)) = true := beq_iff_eq.mpr c7
 have c7b1 : ((t427.length : Int) != (t424.length : Int)) = false := bne_eq_false_iff_eq.mpr c7
 have c7b2 : (t427.length == t424.length) = true := by (simp at c7 ⊢; omega)
 clear c7
 replace H := Option.bind_eq_some_iff.mp H
 obtain ⟨t430, A80, H⟩ := H
 replace H : (if t430 = true then ((spec_Meet.f k t419 t421 t421).bind fun t431 => (if t431 < 0 then (some ((t427.length : Int) == (t424.length : Int))) else (if 0 ≤ (wrap64 (t419 + 1)) then (if (wrap64 (t419 + 1) : Int).toNat ≤ 35184372088832 then (if 0 ≤ (t418.length : Int) then (if ((t418.length : Int) : Int).toNat ≤ 35184372088832 then (laws_FnEvicted.l0 k t418 t419 t420 t421 t427 (List.replicate (wrap64 (t419 + 1) : Int).toNat 0) (List.replicate ((t418.length : Int) : Int).toNat 0) 0) else (none)) else (none)) else (none)) else (none)))) else (some ((t427.length : Int) == (t424.length : Int)))) = some r := H
 have A8 := Aside0.mk A80
 clear A80
 by_cases c9 : t430 = true
 rotate_left
 ·
  replace c9 := Bool.eq_false_iff.mpr c9
  subst c9
  have H1 : (some ((t427.length : Int) == (t424.length : Int))) = some r := by rw [if_neg (show ¬ (false = true) by decide)] at H; exact H
  clear H
  have H := H1
  clear H1
  obtain rfl := Option.some.inj H
  go_enter Try.func8, Try.ntmps8
  go_wp2_with (first | ((with_reducible refine gate_callee (f := 18) rfl ?_); refine goesL_ (some 18) rfl rfl Try.func18 (by kernel_rfl) rfl #[.slice A0 l0.length c0] rfl (by (try simp only [List.map_toArray, List.map_cons, List.map_nil]); rfl) ?_; (with_reducible refine (laws_big.calls _ _ l0 false _ ?side1 ?side2 A2.out).mono ?_); (case side1 => repeat (exact HR0.out)); (case side2 => exact HC0.out); rintro e w' ⟨rfl, ⟨nd, rfl⟩⟩; refine ⟨_, rfl, ?_⟩) | ((with_reducible refine gate_callee (f := 40) rfl ?_); refine goesL_ (some 21) rfl rfl Try.func40 (by kernel_rfl) rfl #[.slice A0 l0.length c0] rfl (by (try simp only [List.map_toArray, List.map_cons, List.map_nil]); rfl) ?_; (with_reducible refine (spec_DrawEvictPlan.calls k _ _ l0 t418 t419 t420 t421 _ ?side1 ?side2 A4.out).mono ?_); (case side1 => repeat (exact HR0.out)); (case side2 => exact HC0.out); rintro e w97 ⟨v422, rfl, ho0, hb⟩; refine ⟨_, rfl, ?_⟩; have n0_ := Aside0.mk (Kd.S_lower (deep_new ho0) (below_size (by repeat ((with_reducible first | exact HB.out | apply pw_below_drewN))))); have n1_ := Aside0.mk (below_step (by repeat ((with_reducible first | exact HB.out | apply pw_below_drewN))) hb); clear HB; have HO423 := n0_; have HB := n1_; clear n0_ n1_; (try clear hb); (try clear hb2); (try clear hk); (try clear hi); (try clear ho0); obtain ⟨Ao98, co98, eo98⟩ := Kd.S_slice HO423.out; subst eo98) | ((with_reducible refine gate_callee (f := 41) rfl ?_); refine goesL_ (some 30) rfl rfl Try.func41 (by kernel_rfl) rfl #[.slice Ao98 t418.length co98, .int .i64 t419, .int .i64 t420, .int .i64 t421] rfl (by (try simp only [List.map_toArray, List.map_cons, List.map_nil]); rfl) ?_; (with_reducible refine (spec_EvictPlan.calls k _ _ t418 t419 t420 t421 t424 _ ?side1 ?side2 A5.out).mono ?_); (case side1 => repeat (exact (Kd.S_reads' HO423.out).2.2)); (case side2 => exact (Kd.S_reads' HO423.out).2.1); rintro e w99 ⟨v425, rfl, ho0, hb⟩; refine ⟨_, rfl, ?_⟩; have n0_ := Aside0.mk (Kd.S_below (by (with_reducible repeat (first | apply Kd.S_alloc | apply Kd.S_drewN | apply Kd.S_drew)); exact HO423.out) hb); have n1_ := Aside0.mk (Kd.R_lower ho0 (below_size (by repeat ((with_reducible exact HB.out))))); have n2_ := Aside0.mk (below_step (by repeat ((with_reducible exact HB.out))) hb); clear HO423; clear HB; have HO423 := n0_; have HO426 := n1_; have HB := n2_; clear n0_ n1_ n2_; (try clear hb); (try clear hb2); (try clear hk); (try clear hi); (try clear ho0)) | ((with_reducible refine gate_callee (f := 42) rfl ?_); refine goesL_ (some 35) rfl rfl Try.func42 (by kernel_rfl) rfl #[.slice Ao98 t418.length co98, .int .i64 t419, .int .i64 t420, .int .i64 t421] rfl (by (try simp only [List.map_toArray, List.map_cons, List.map_nil]); rfl) ?_; (with_reducible refine (impl_EvictPlan.calls k _ _ t418 t419 t420 t421 t427 _ ?side1 ?side2 A6.out).mono ?_); (case side1 => repeat (exact (Kd.S_reads' HO423.out).2.2)); (case side2 => exact (Kd.S_reads' HO423.out).2.1); rintro e w100 ⟨v428, rfl, ho0, hb⟩; refine ⟨_, rfl, ?_⟩; have n0_ := Aside0.mk (Kd.S_below (by (with_reducible repeat (first | apply Kd.S_alloc | apply Kd.S_drewN | apply Kd.S_drew)); exact HO423.out) hb); have n1_ := Aside0.mk (Kd.R_elder' (by (with_reducible repeat (first | apply Kd.R_alloc | apply Kd.R_drewN | apply Kd.R_drew)); exact HO426.out) (Kd.R_base ho0) hb); have n2_ := Aside0.mk (Kd.R_lower (Kd.R_new' ho0 (Kd.R_lt (by (with_reducible repeat (first | apply Kd.R_alloc | apply Kd.R_drewN | apply Kd.R_drew)); exact HO426.out))) (below_size (by repeat ((with_reducible exact HB.out))))); have n3_ := Aside0.mk (below_step (by repeat ((with_reducible exact HB.out))) hb); clear HO423; clear HO426; clear HB; have HO423 := n0_; have HO426 := n1_; have HO429 := n2_; have HB := n3_; clear n0_ n1_ n2_ n3_; (try clear hb); (try clear hb2); (try clear hk); (try clear hi); (try clear ho0); obtain ⟨Ao101, co101, eo101⟩ := Kd.R_slice HO429.out; subst eo101; obtain ⟨Ao102, co102, eo102⟩ := Kd.R_slice HO426.out; subst eo102) | (go_at_call 43; (with_reducible refine (spec_StashOk.calls k _ _ t418 t419 t420 false _ ?side1 ?side2 A8.out).mono ?_); (case side1 => repeat (exact (Kd.S_reads' HO423.out).2.2)); (case side2 => exact (Kd.S_reads' HO423.out).2.1); rintro e w103 ⟨rfl, hb⟩; have n0_ := Aside0.mk (Kd.S_below (by (with_reducible repeat (first | apply Kd.S_alloc | apply Kd.S_drewN | apply Kd.S_drew)); exact HO423.out) hb); have n1_ := Aside0.mk (Kd.R_below (by (with_reducible repeat (first | apply Kd.R_alloc | apply Kd.R_drewN | apply Kd.R_drew)); exact HO426.out) hb); have n2_ := Aside0.mk (Kd.R_below (by (with_reducible repeat (first | apply Kd.R_alloc | apply Kd.R_drewN | apply Kd.R_drew)); exact HO429.out) hb); have n3_ := Aside0.mk (below_step (by repeat ((with_reducible exact HB.out))) hb); clear HO423; clear HO426; clear HO429; clear HB; have HO423 := n0_; have HO426 := n1_; have HO429 := n2_; have HB := n3_; clear n0_ n1_ n2_ n3_; (try clear hb); (try clear hb2); (try clear hk); (try clear hi)))
  go_ret
  exact ⟨by (simp [*, errW_none, errW_some] <;> rfl), by repeat ((with_reducible exact HB.out))⟩
 subst c9
 have H1 : ((spec_Meet.f k t419 t421 t421).bind fun t431 => (if t431 < 0 then (some ((t427.length : Int) == (t424.length : Int))) else (if 0 ≤ (wrap64 (t419 + 1)) then (if (wrap64 (t419 + 1) : Int).toNat ≤ 35184372088832 then (if 0 ≤ (t418.length : Int) then (if ((t418.length : Int) : Int).toNat ≤ 35184372088832 then (laws_FnEvicted.l0 k t418 t419 t420 t421 t427 (List.replicate (wrap64 (t419 + 1) : Int).toNat 0) (List.replicate ((t418.length : Int) : Int).toNat 0) 0) else (none)) else (none)) else (none)) else (none)))) = some r := by rw [if_pos rfl] at H; exact H
 clear H
 have H := H1
 clear H1
 replace H := Option.bind_eq_some_iff.mp H
 obtain ⟨t431, A100, H⟩ := H
 replace H : (if t431 < 0 then (some ((t427.length : Int) == (t424.length : Int))) else (if 0 ≤ (wrap64 (t419 + 1)) then (if (wrap64 (t419 + 1) : Int).toNat ≤ 35184372088832 then (if 0 ≤ (t418.length : Int) then (if ((t418.length : Int) : Int).toNat ≤ 35184372088832 then (laws_FnEvicted.l0 k t418 t419 t420 t421 t427 (List.replicate (wrap64 (t419 + 1) : Int).toNat 0) (List.replicate ((t418.length : Int) : Int).toNat 0) 0) else (none)) else (none)) else (none)) else (none))) = some r := H
 have A10 := Aside0.mk A100
 clear A100
 by_cases c11 : t431 < 0
 ·
  rw [if_pos c11] at H
  have c11b0 : decide (t431 < 0) = true := decide_eq_true c11
  clear c11
  obtain rfl := Option.some.inj H
  go_enter Try.func8, Try.ntmps8
  go_wp2_with (first | ((with_reducible refine gate_callee (f := 18) rfl ?_); refine goesL_ (some 18) rfl rfl Try.func18 (by kernel_rfl) rfl #[.slice A0 l0.length c0] rfl (by (try simp only [List.map_toArray, List.map_cons, List.map_nil]); rfl) ?_; (with_reducible refine (laws_big.calls _ _ l0 false _ ?side1 ?side2 A2.out).mono ?_); (case side1 => repeat (exact HR0.out)); (case side2 => exact HC0.out); rintro e w' ⟨rfl, ⟨nd, rfl⟩⟩; refine ⟨_, rfl, ?_⟩) | ((with_reducible refine gate_callee (f := 40) rfl ?_); refine goesL_ (some 21) rfl rfl Try.func40 (by kernel_rfl) rfl #[.slice A0 l0.length c0] rfl (by (try simp only [List.map_toArray, List.map_cons, List.map_nil]); rfl) ?_; (with_reducible refine (spec_DrawEvictPlan.calls k _ _ l0 t418 t419 t420 t421 _ ?side1 ?side2 A4.out).mono ?_); (case side1 => repeat (exact HR0.out)); (case side2 => exact HC0.out); rintro e w12 ⟨v422, rfl, ho0, hb⟩; refine ⟨_, rfl, ?_⟩; have n0_ := Aside0.mk (Kd.S_lower (deep_new ho0) (below_size (by repeat ((with_reducible first | exact HB.out | apply pw_below_drewN))))); have n1_ := Aside0.mk (below_step (by repeat ((with_reducible first | exact HB.out | apply pw_below_drewN))) hb); clear HB; have HO423 := n0_; have HB := n1_; clear n0_ n1_; (try clear hb); (try clear hb2); (try clear hk); (try clear hi); (try clear ho0); obtain ⟨Ao13, co13, eo13⟩ := Kd.S_slice HO423.out; subst eo13) | ((with_reducible refine gate_callee (f := 41) rfl ?_); refine goesL_ (some 30) rfl rfl Try.func41 (by kernel_rfl) rfl #[.slice Ao13 t418.length co13, .int .i64 t419, .int .i64 t420, .int .i64 t421] rfl (by (try simp only [List.map_toArray, List.map_cons, List.map_nil]); rfl) ?_; (with_reducible refine (spec_EvictPlan.calls k _ _ t418 t419 t420 t421 t424 _ ?side1 ?side2 A5.out).mono ?_); (case side1 => repeat (exact (Kd.S_reads' HO423.out).2.2)); (case side2 => exact (Kd.S_reads' HO423.out).2.1); rintro e w14 ⟨v425, rfl, ho0, hb⟩; refine ⟨_, rfl, ?_⟩; have n0_ := Aside0.mk (Kd.S_below (by (with_reducible repeat (first | apply Kd.S_alloc | apply Kd.S_drewN | apply Kd.S_drew)); exact HO423.out) hb); have n1_ := Aside0.mk (Kd.R_lower ho0 (below_size (by repeat ((with_reducible exact HB.out))))); have n2_ := Aside0.mk (below_step (by repeat ((with_reducible exact HB.out))) hb); clear HO423; clear HB; have HO423 := n0_; have HO426 := n1_; have HB := n2_; clear n0_ n1_ n2_; (try clear hb); (try clear hb2); (try clear hk); (try clear hi); (try clear ho0)) | ((with_reducible refine gate_callee (f := 42) rfl ?_); refine goesL_ (some 35) rfl rfl Try.func42 (by kernel_rfl) rfl #[.slice Ao13 t418.length co13, .int .i64 t419, .int .i64 t420, .int .i64 t421] rfl (by (try simp only [List.map_toArray, List.map_cons, List.map_nil]); rfl) ?_; (with_reducible refine (impl_EvictPlan.calls k _ _ t418 t419 t420 t421 t427 _ ?side1 ?side2 A6.out).mono ?_); (case side1 => repeat (exact (Kd.S_reads' HO423.out).2.2)); (case side2 => exact (Kd.S_reads' HO423.out).2.1); rintro e w15 ⟨v428, rfl, ho0, hb⟩; refine ⟨_, rfl, ?_⟩; have n0_ := Aside0.mk (Kd.S_below (by (with_reducible repeat (first | apply Kd.S_alloc | apply Kd.S_drewN | apply Kd.S_drew)); exact HO423.out) hb); have n1_ := Aside0.mk (Kd.R_elder' (by (with_reducible repeat (first | apply Kd.R_alloc | apply Kd.R_drewN | apply Kd.R_drew)); exact HO426.out) (Kd.R_base ho0) hb); have n2_ := Aside0.mk (Kd.R_lower (Kd.R_new' ho0 (Kd.R_lt (by (with_reducible repeat (first | apply Kd.R_alloc | apply Kd.R_drewN | apply Kd.R_drew)); exact HO426.out))) (below_size (by repeat ((with_reducible exact HB.out))))); have n3_ := Aside0.mk (below_step (by repeat ((with_reducible exact HB.out))) hb); clear HO423; clear HO426; clear HB; have HO423 := n0_; have HO426 := n1_; have HO429 := n2_; have HB := n3_; clear n0_ n1_ n2_ n3_; (try clear hb); (try clear hb2); (try clear hk); (try clear hi); (try clear ho0); obtain ⟨Ao16, co16, eo16⟩ := Kd.R_slice HO429.out; subst eo16; obtain ⟨Ao17, co17, eo17⟩ := Kd.R_slice HO426.out; subst eo17) | (go_at_call 43; (with_reducible refine (spec_StashOk.calls k _ _ t418 t419 t420 true _ ?side1 ?side2 A8.out).mono ?_); (case side1 => repeat (exact (Kd.S_reads' HO423.out).2.2)); (case side2 => exact (Kd.S_reads' HO423.out).2.1); rintro e w18 ⟨rfl, hb⟩; have n0_ := Aside0.mk (Kd.S_below (by (with_reducible repeat (first | apply Kd.S_alloc | apply Kd.S_drewN | apply Kd.S_drew)); exact HO423.out) hb); have n1_ := Aside0.mk (Kd.R_below (by (with_reducible repeat (first | apply Kd.R_alloc | apply Kd.R_drewN | apply Kd.R_drew)); exact HO426.out) hb); have n2_ := Aside0.mk (Kd.R_below (by (with_reducible repeat (first | apply Kd.R_alloc | apply Kd.R_drewN | apply Kd.R_drew)); exact HO429.out) hb); have n3_ := Aside0.mk (below_step (by repeat ((with_reducible exact HB.out))) hb); clear HO423; clear HO426; clear HO429; clear HB; have HO423 := n0_; have HO426 := n1_; have HO429 := n2_; have HB := n3_; clear n0_ n1_ n2_ n3_; (try clear hb); (try clear hb2); (try clear hk); (try clear hi)) | (go_at_call 44; (with_reducible refine (spec_Meet.calls k t419 t421 t421 t431 _ A10.out).mono ?_); rintro e w19 ⟨rfl, hb⟩; have n0_ := Aside0.mk (Kd.S_below (by (with_reducible repeat (first | apply Kd.S_alloc | apply Kd.S_drewN | apply Kd.S_drew)); exact HO423.out) hb); have n1_ := Aside0.mk (Kd.R_below (by (with_reducible repeat (first | apply Kd.R_alloc | apply Kd.R_drewN | apply Kd.R_drew)); exact HO426.out) hb); have n2_ := Aside0.mk (Kd.R_below (by (with_reducible repeat (first | apply Kd.R_alloc | apply Kd.R_drewN | apply Kd.R_drew)); exact HO429.out) hb); have n3_ := Aside0.mk (below_step (by repeat ((with_reducible exact HB.out))) hb); clear HO423; clear HO426; clear HO429; clear HB; have HO423 := n0_; have HO426 := n1_; have HO429 := n2_; have HB := n3_; clear n0_ n1_ n2_ n3_; (try clear hb); (try clear hb2); (try clear hk); (try clear hi)))
  go_ret
  exact ⟨by (simp [*, errW_none, errW_some] <;> rfl), by repeat ((with_reducible exact HB.out))⟩
 rw [if_neg c11] at H
 have c11b0 : decide (t431 < 0) = false := decide_eq_false c11
 clear c11
 obtain ⟨ji20, hji20⟩ : ∃ j_ : Int, (wrap64 (t419 + 1)) = j_ := ⟨_, rfl⟩
 replace H : (if 0 ≤ (ji20) then (if (ji20 : Int).toNat ≤ 35184372088832 then (if 0 ≤ (t418.length : Int) then (if ((t418.length : Int) : Int).toNat ≤ 35184372088832 then (laws_FnEvicted.l0 k t418 t419 t420 t421 t427 (List.replicate (ji20 : Int).toNat 0) (List.replicate ((t418.length : Int) : Int).toNat 0) 0) else (none)) else (none)) else (none)) else (none)) = some r := by (rw [hji20] at H; exact H)
 (try rw [hji20] at A2)
 (try rw [hji20] at A4)
 (try rw [hji20] at A5)
 (try rw [hji20] at A6)
 (try rw [hji20] at A8)
 (try rw [hji20] at A10)
 have hji20w : (IntKind.i64.wrap (t419 + 1)) = ji20 := (i64_w _).trans hji20
 by_cases c21 : 0 ≤ (ji20)
 rotate_left
 ·
  rw [if_neg c21] at H
  exact absurd H (by simp)
 rw [if_pos c21] at H
 have c21b0 := eq_true c21
 have c21b1 : decide (0 ≤ (ji20)) = true := decide_eq_true c21
 clear c21
 by_cases c22 : (ji20 : Int).toNat ≤ 35184372088832
 rotate_left
 ·
  rw [if_neg c22] at H
  exact absurd H (by simp)
 rw [if_pos c22] at H
 have c22b0 := eq_true c22
 have c22b1 : decide ((ji20 : Int).toNat ≤ 35184372088832) = true := decide_eq_true c22
 clear c22
 obtain ⟨y432, hy432⟩ : ∃ y_ : List Int, y_ = (List.replicate (ji20 : Int).toNat 0) := ⟨_, rfl⟩
 replace H : (if 0 ≤ (t418.length : Int) then (if ((t418.length : Int) : Int).toNat ≤ 35184372088832 then (laws_FnEvicted.l0 k t418 t419 t420 t421 t427 y432 (List.replicate ((t418.length : Int) : Int).toNat 0) 0) else (none)) else (none)) = some r := by (rw [hy432]; with_reducible exact H)
 have Ny432 := Aside0.mk hy432
 clear hy432
 by_cases c23 : 0 ≤ (t418.length : Int)
 rotate_left
 ·
  rw [if_neg c23] at H
  exact absurd H (by simp)
 rw [if_pos c23] at H
 have c23b0 := eq_true c23
 have c23b1 : decide (0 ≤ (t418.length : Int)) = true := decide_eq_true c23
 clear c23
 by_cases c24 : ((t418.length : Int) : Int).toNat ≤ 35184372088832
 rotate_left
 ·
  rw [if_neg c24] at H
  exact absurd H (by simp)
 rw [if_pos c24] at H
 have c24b0 := eq_true c24
 have c24b1 : decide (((t418.length : Int) : Int).toNat ≤ 35184372088832) = true := decide_eq_true c24
 clear c24
 obtain ⟨y435, hy435⟩ : ∃ y_ : List Int, y_ = (List.replicate ((t418.length : Int) : Int).toNat 0) := ⟨_, rfl⟩
 replace H : (laws_FnEvicted.l0 k t418 t419 t420 t421 t427 y432 y435 0) = some r := by (rw [hy435]; with_reducible exact H)
 have Ny435 := Aside0.mk hy435
 clear hy435
 have H' := Aside0.mk H
 clear H
 go_enter Try.func8, Try.ntmps8
 go_wp2_with (first | ((with_reducible refine gate_callee (f := 18) rfl ?_); refine goesL_ (some 18) rfl rfl Try.func18 (by kernel_rfl) rfl #[.slice A0 l0.length c0] rfl (by (try simp only [List.map_toArray, List.map_cons, List.map_nil]); rfl) ?_; (with_reducible refine (laws_big.calls _ _ l0 false _ ?side1 ?side2 A2.out).mono ?_); (case side1 => repeat (exact HR0.out)); (case side2 => exact HC0.out); rintro e w' ⟨rfl, ⟨nd, rfl⟩⟩; refine ⟨_, rfl, ?_⟩) | ((with_reducible refine gate_callee (f := 40) rfl ?_); refine goesL_ (some 21) rfl rfl Try.func40 (by kernel_rfl) rfl #[.slice A0 l0.length c0] rfl (by (try simp only [List.map_toArray, List.map_cons, List.map_nil]); rfl) ?_; (with_reducible refine (spec_DrawEvictPlan.calls k _ _ l0 t418 t419 t420 t421 _ ?side1 ?side2 A4.out).mono ?_); (case side1 => repeat (exact HR0.out)); (case side2 => exact HC0.out); rintro e w25 ⟨v422, rfl, ho0, hb⟩; refine ⟨_, rfl, ?_⟩; have n0_ := Aside0.mk (Kd.S_lower (deep_new ho0) (below_size (by repeat ((with_reducible first | exact HB.out | apply pw_below_drewN))))); have n1_ := Aside0.mk (below_step (by repeat ((with_reducible first | exact HB.out | apply pw_below_drewN))) hb); clear HB; have HO423 := n0_; have HB := n1_; clear n0_ n1_; (try clear hb); (try clear hb2); (try clear hk); (try clear hi); (try clear ho0); obtain ⟨Ao26, co26, eo26⟩ := Kd.S_slice HO423.out; subst eo26) | ((with_reducible refine gate_callee (f := 41) rfl ?_); refine goesL_ (some 30) rfl rfl Try.func41 (by kernel_rfl) rfl #[.slice Ao26 t418.length co26, .int .i64 t419, .int .i64 t420, .int .i64 t421] rfl (by (try simp only [List.map_toArray, List.map_cons, List.map_nil]); rfl) ?_; (with_reducible refine (spec_EvictPlan.calls k _ _ t418 t419 t420 t421 t424 _ ?side1 ?side2 A5.out).mono ?_); (case side1 => repeat (exact (Kd.S_reads' HO423.out).2.2)); (case side2 => exact (Kd.S_reads' HO423.out).2.1); rintro e w27 ⟨v425, rfl, ho0, hb⟩; refine ⟨_, rfl, ?_⟩; have n0_ := Aside0.mk (Kd.S_below (by (with_reducible repeat (first | apply Kd.S_alloc | apply Kd.S_drewN | apply Kd.S_drew)); exact HO423.out) hb); have n1_ := Aside0.mk (Kd.R_lower ho0 (below_size (by repeat ((with_reducible exact HB.out))))); have n2_ := Aside0.mk (below_step (by repeat ((with_reducible exact HB.out))) hb); clear HO423; clear HB; have HO423 := n0_; have HO426 := n1_; have HB := n2_; clear n0_ n1_ n2_; (try clear hb); (try clear hb2); (try clear hk); (try clear hi); (try clear ho0)) | ((with_reducible refine gate_callee (f := 42) rfl ?_); refine goesL_ (some 35) rfl rfl Try.func42 (by kernel_rfl) rfl #[.slice Ao26 t418.length co26, .int .i64 t419, .int .i64 t420, .int .i64 t421] rfl (by (try simp only [List.map_toArray, List.map_cons, List.map_nil]); rfl) ?_; (with_reducible refine (impl_EvictPlan.calls k _ _ t418 t419 t420 t421 t427 _ ?side1 ?side2 A6.out).mono ?_); (case side1 => repeat (exact (Kd.S_reads' HO423.out).2.2)); (case side2 => exact (Kd.S_reads' HO423.out).2.1); rintro e w28 ⟨v428, rfl, ho0, hb⟩; refine ⟨_, rfl, ?_⟩; have n0_ := Aside0.mk (Kd.S_below (by (with_reducible repeat (first | apply Kd.S_alloc | apply Kd.S_drewN | apply Kd.S_drew)); exact HO423.out) hb); have n1_ := Aside0.mk (Kd.R_elder' (by (with_reducible repeat (first | apply Kd.R_alloc | apply Kd.R_drewN | apply Kd.R_drew)); exact HO426.out) (Kd.R_base ho0) hb); have n2_ := Aside0.mk (Kd.R_lower (Kd.R_new' ho0 (Kd.R_lt (by (with_reducible repeat (first | apply Kd.R_alloc | apply Kd.R_drewN | apply Kd.R_drew)); exact HO426.out))) (below_size (by repeat ((with_reducible exact HB.out))))); have n3_ := Aside0.mk (below_step (by repeat ((with_reducible exact HB.out))) hb); clear HO423; clear HO426; clear HB; have HO423 := n0_; have HO426 := n1_; have HO429 := n2_; have HB := n3_; clear n0_ n1_ n2_ n3_; (try clear hb); (try clear hb2); (try clear hk); (try clear hi); (try clear ho0); obtain ⟨Ao29, co29, eo29⟩ := Kd.R_slice HO429.out; subst eo29; obtain ⟨Ao30, co30, eo30⟩ := Kd.R_slice HO426.out; subst eo30) | (go_at_call 43; (with_reducible refine (spec_StashOk.calls k _ _ t418 t419 t420 true _ ?side1 ?side2 A8.out).mono ?_); (case side1 => repeat (exact (Kd.S_reads' HO423.out).2.2)); (case side2 => exact (Kd.S_reads' HO423.out).2.1); rintro e w31 ⟨rfl, hb⟩; have n0_ := Aside0.mk (Kd.S_below (by (with_reducible repeat (first | apply Kd.S_alloc | apply Kd.S_drewN | apply Kd.S_drew)); exact HO423.out) hb); have n1_ := Aside0.mk (Kd.R_below (by (with_reducible repeat (first | apply Kd.R_alloc | apply Kd.R_drewN | apply Kd.R_drew)); exact HO426.out) hb); have n2_ := Aside0.mk (Kd.R_below (by (with_reducible repeat (first | apply Kd.R_alloc | apply Kd.R_drewN | apply Kd.R_drew)); exact HO429.out) hb); have n3_ := Aside0.mk (below_step (by repeat ((with_reducible exact HB.out))) hb); clear HO423; clear HO426; clear HO429; clear HB; have HO423 := n0_; have HO426 := n1_; have HO429 := n2_; have HB := n3_; clear n0_ n1_ n2_ n3_; (try clear hb); (try clear hb2); (try clear hk); (try clear hi)) | (go_at_call 44; (with_reducible refine (spec_Meet.calls k t419 t421 t421 t431 _ A10.out).mono ?_); rintro e w32 ⟨rfl, hb⟩; have n0_ := Aside0.mk (Kd.S_below (by (with_reducible repeat (first | apply Kd.S_alloc | apply Kd.S_drewN | apply Kd.S_drew)); exact HO423.out) hb); have n1_ := Aside0.mk (Kd.R_below (by (with_reducible repeat (first | apply Kd.R_alloc | apply Kd.R_drewN | apply Kd.R_drew)); exact HO426.out) hb); have n2_ := Aside0.mk (Kd.R_below (by (with_reducible repeat (first | apply Kd.R_alloc | apply Kd.R_drewN | apply Kd.R_drew)); exact HO429.out) hb); have n3_ := Aside0.mk (below_step (by repeat ((with_reducible exact HB.out))) hb); clear HO423; clear HO426; clear HO429; clear HB; have HO423 := n0_; have HO426 := n1_; have HO429 := n2_; have HB := n3_; clear n0_ n1_ n2_ n3_; (try clear hb); (try clear hb2); (try clear hk); (try clear hi)) | ((with_reducible refine gate_dst (N := 62) rfl ?_); refine Kd.R_make (Kd.int .i64) _ 3 rfl (N := 62) rfl 65 _ _ rfl ji20 rfl rfl Try.underlying65 (.int .i64 0) 8 info3 rfl (by decide) (by omega) 0 (ok := fun _ => True) (okp := fun _ => True) rfl (fun _ hk => hk) trivial (of_decide_eq_true (by (with_reducible assumption))) (Nat.le_trans (Nat.mul_le_mul_right _ (of_decide_eq_true (by (with_reducible assumption)) : ji20.toNat ≤ 35184372088832)) (by omega)) (Below.refl _ _) (Nat.le_refl _) ?_; intro v433 w33 ho34 hb hg_ hnew_; clear hg_ hnew_; (rw [← Ny432.out] at ho34); have n0_ := Aside0.mk (Kd.S_below (by (with_reducible repeat (first | apply Kd.S_alloc | apply Kd.S_drewN | apply Kd.S_drew)); exact HO423.out) hb); have n1_ := Aside0.mk (Kd.R_below (by (with_reducible repeat (first | apply Kd.R_alloc | apply Kd.R_drewN | apply Kd.R_drew)); exact HO426.out) hb); have n2_ := Aside0.mk (Kd.R_below (by (with_reducible repeat (first | apply Kd.R_alloc | apply Kd.R_drewN | apply Kd.R_drew)); exact HO429.out) hb); have n3_ := Aside0.mk (Kd.R_lower ho34 (below_size (by repeat ((with_reducible exact HB.out))))); have n4_ := Aside0.mk (below_step (by repeat ((with_reducible exact HB.out))) hb); clear HO423; clear HO426; clear HO429; clear HB; have HO423 := n0_; have HO426 := n1_; have HO429 := n2_; have HO434 := n3_; have HB := n4_; clear n0_ n1_ n2_ n3_ n4_; clear hb ho34) | ((with_reducible refine gate_dst (N := 65) rfl ?_); refine Kd.R_make (Kd.int .i64) _ 3 rfl (N := 65) rfl 65 _ _ rfl (t418.length : Int) rfl rfl Try.underlying65 (.int .i64 0) 8 info3 rfl (by decide) (by omega) 0 (ok := fun _ => True) (okp := fun _ => True) rfl (fun _ hk => hk) trivial (of_decide_eq_true (by (with_reducible assumption))) (Nat.le_trans (Nat.mul_le_mul_right _ (of_decide_eq_true (by (with_reducible assumption)) : (t418.length : Int).toNat ≤ 35184372088832)) (by omega)) (Below.refl _ _) (Nat.le_refl _) ?_; intro v436 w35 ho36 hb hg_ hnew_; clear hg_ hnew_; (rw [← Ny435.out] at ho36); have n0_ := Aside0.mk (Kd.S_below (by (with_reducible repeat (first | apply Kd.S_alloc | apply Kd.S_drewN | apply Kd.S_drew)); exact HO423.out) hb); have n1_ := Aside0.mk (Kd.R_below (by (with_reducible repeat (first | apply Kd.R_alloc | apply Kd.R_drewN | apply Kd.R_drew)); exact HO426.out) hb); have n2_ := Aside0.mk (Kd.R_below (by (with_reducible repeat (first | apply Kd.R_alloc | apply Kd.R_drewN | apply Kd.R_drew)); exact HO429.out) hb); have n3_ := Aside0.mk (Kd.R_elder' (by (with_reducible repeat (first | apply Kd.R_alloc | apply Kd.R_drewN | apply Kd.R_drew)); exact HO434.out) (Kd.R_base ho36) hb); have n4_ := Aside0.mk (Kd.R_lower (Kd.R_new' ho36 (Kd.R_lt (by (with_reducible repeat (first | apply Kd.R_alloc | apply Kd.R_drewN | apply Kd.R_drew)); exact HO434.out))) (below_size (by repeat ((with_reducible exact HB.out))))); have n5_ := Aside0.mk (below_step (by repeat ((with_reducible exact HB.out))) hb); clear HO423; clear HO426; clear HO429; clear HO434; clear HB; have HO423 := n0_; have HO426 := n1_; have HO429 := n2_; have HO434 := n3_; have HO437 := n4_; have HB := n5_; clear n0_ n1_ n2_ n3_ n4_ n5_; clear hb ho36))
 go_loopg [11] k (fun kq v11 w' => ∃ (x10_1 : List Int) (x11_1 : Int), v11 = .int .i64 x11_1 ∧ Aside0 (laws_FnEvicted.l0 kq t418 t419 t420 t421 t427 y432 x10_1 x11_1 = some r) ∧ Aside0 (kq ≤ k) ∧ Aside0 (Kd.S k26 26 w' w.heap.size (fun _ => True) (.slice Ao26 t418.length co26) t418) ∧ Aside0 (Kd.R k67 67 w' w.heap.size (fun _ => True) (.slice Ao29 t427.length co29) t427) ∧ Aside0 (Kd.R (Kd.int .i64) 3 w' w.heap.size (fun k_ => some k_ ≠ (v436 : Value).ownBlock) v433 y432) ∧ Aside0 (Kd.R (Kd.int .i64) 3 w' w.heap.size (fun k_ => some k_ ≠ (v433 : Value).ownBlock) v436 x10_1) ∧ Aside0 (Below w.heap.size w w'))
 case atStart => exact ⟨(y435), (0), (by rfl), H', ⟨Nat.le_refl _⟩, ⟨by (with_reducible repeat (first | apply Kd.S_alloc | apply Kd.S_drewN | apply Kd.S_drew)); exact Kd.S_mono HO423.out (fun _ hk => trivial)⟩, ⟨by (with_reducible repeat (first | apply Kd.R_alloc | apply Kd.R_drewN | apply Kd.R_drew)); exact Kd.R_mono HO429.out (fun _ hk => trivial)⟩, ⟨by (with_reducible repeat (first | apply Kd.R_alloc | apply Kd.R_drewN | apply Kd.R_drew)); exact Kd.R_mono HO434.out (fun _ hk => by exact hk.2)⟩, ⟨by (with_reducible repeat (first | apply Kd.R_alloc | apply Kd.R_drewN | apply Kd.R_drew)); exact Kd.R_mono HO437.out (fun _ hk => by exact hk.2)⟩, ⟨by repeat ((with_reducible exact HB.out))⟩⟩
 case round =>
  clear H'
  try clear c1
  try clear c2
  try clear p2
  try clear c3
  try clear c4
  try clear p6
  try clear c7
  try clear c7b0
  try clear c7b1
  try clear c7b2
  try clear c8
  try clear c9
  try clear c11
  try clear c11b0
  try clear c18
  try clear c21
  try clear c21b0
  try clear c21b1
  try clear c22
  try clear c22b0
  try clear c22b1
  try clear c23
  try clear c23b0
  try clear c23b1
  try clear c24
  try clear c24b0
  try clear c24b1
  obtain ⟨x10_1, x11_1, rfl, HA, HK1, HO_3, HO_8, HO_9, HO_10, HB⟩ := hrel
  cases gk with
  | zero => exact absurd HA.out (by simp [laws_FnEvicted.l0])
  | succ k1 =>
   have H := HA.out
   clear HA
   simp only [laws_FnEvicted.l0] at H
   by_cases c37 : x11_1 < (t418.length : Int)
   ·
    rw [if_pos c37] at H
    have c37b0 : decide (x11_1 < (t418.length : Int)) = true := decide_eq_true c37
    clear c37
    by_cases c38 : 0 ≤ x11_1
    rotate_left
    ·
     rw [if_neg c38] at H
     exact absurd H (by simp)
    rw [if_pos c38] at H
    have c38b0 : decide (0 ≤ x11_1) = true := decide_eq_true c38
    clear c38
    by_cases c39 : x11_1 < (x10_1.length : Int)
    rotate_left
    ·
     rw [if_neg c39] at H
     exact absurd H (by simp)
    rw [if_pos c39] at H
    have c39b0 : decide (x11_1 < (x10_1.length : Int)) = true := decide_eq_true c39
    clear c39
    obtain ⟨y438, hy438⟩ : ∃ y_ : List Int, y_ = (x10_1.set (x11_1 : Int).toNat (-1)) := ⟨_, rfl⟩
    replace H : (laws_FnEvicted.l0 k1 t418 t419 t420 t421 t427 y432 y438 (wrap64 (x11_1 + 1))) = some r := by (rw [hy438]; with_reducible exact H)
    have Ny438 := Aside0.mk hy438
    clear hy438
    have H' := Aside0.mk H
    clear H
    have p40 : 0 ≤ (x11_1 : Int) := of_decide_eq_true (by (with_reducible assumption))
    have q40 : (x11_1 : Int) < ((x10_1.length : Int) : Int) := of_decide_eq_true (by (with_reducible assumption))
    obtain ⟨go40, co40, eo40, gb40, gl40, cl40, HG40⟩ := Kd.R_form HO_10.out (by omega)
    (cases eo40)
    have GB40 := Aside0.mk gb40
    have GG40 := Aside0.mk HG40
    clear gb40 gl40 HG40
    obtain ⟨hx40_0, hf40_0⟩ := Kd.R_celln 0 HO_10.out (x11_1 : Int) p40 q40
    replace p40 := eq_true p40
    replace q40 := eq_true q40
    have HP41 := Kd.R_putg HO_10.out (x11_1 : Int) (-1)
    go_wp2_with (((with_reducible refine gate_store (t := 3) (p := 74) rfl ?_); refine store_event (t := 3) (p := 74) (v := ?vo_w42) (w1 := (wr.setCell ⟨go40, (x11_1 : Int).toNat, none⟩ (.int .i64 (-1)))) ?hg ?ho ?hn ?hr ?_; (case ho => rfl); (case hg => rfl); (case hn => rfl); (case hr => (go_simp; done)); intro w42 hw; have hg : wr.grownBy w42 (some go40) := (by rw [hw]; exact HP41.2); have hp_ : Kd.R (Kd.int .i64) 3 w42 w.heap.size (fun k_ => some k_ ≠ (v433 : Value).ownBlock) (.slice (some ⟨go40, 0, none⟩) x10_1.length co40) y438 := (by rw [hw, Ny438.out]; exact HP41.1); clear HP41; have n0_ := Aside0.mk (Kd.S_over' (v := (.slice (some ⟨go40, 0, none⟩) x10_1.length co40)) (by (with_reducible repeat (first | apply Kd.S_alloc | apply Kd.S_drewN | apply Kd.S_drew)); exact HO_3.out) (Kd.R_typed HO_10.out) (by decide) hg); have n1_ := Aside0.mk (Kd.R_over' (v := (.slice (some ⟨go40, 0, none⟩) x10_1.length co40)) (by (with_reducible repeat (first | apply Kd.R_alloc | apply Kd.R_drewN | apply Kd.R_drew)); exact HO_8.out) (Kd.R_typed HO_10.out) (by decide) hg); have n2_ := Aside0.mk (Kd.R_after (v := (.slice (some ⟨go40, 0, none⟩) x10_1.length co40)) (v1 := (.slice (some ⟨go40, 0, none⟩) x10_1.length co40)) (ok := (fun _ => True)) (by (with_reducible repeat (first | apply Kd.R_alloc | apply Kd.R_drewN | apply Kd.R_drew)); exact Kd.R_mono HO_9.out (fun _ hk => ⟨trivial, hk⟩)) hg (.inl rfl)); have n3_ := Aside0.mk (hp_); have n4_ := Aside0.mk ((by rw [hw]; exact below_set (HB.out) GB40.out : Below w.heap.size w w42)); clear HO_3; clear HO_8; clear HO_9; clear HO_10; clear HB; have HO_3 := n0_; have HO_8 := n1_; have HO_9 := n2_; have HO_10 := n3_; have HB := n4_; clear n0_ n1_ n2_ n3_ n4_; clear hg hw hp_))
    go_roundg k1
    case measure => have := HK1.out; omega
    case rel => exact ⟨(y438), (wrap64 (x11_1 + 1)), (by rfl), H', ⟨by have := HK1.out; omega⟩, ⟨by (with_reducible repeat (first | apply Kd.S_alloc | apply Kd.S_drewN | apply Kd.S_drew)); exact HO_3.out⟩, ⟨by (with_reducible repeat (first | apply Kd.R_alloc | apply Kd.R_drewN | apply Kd.R_drew)); exact HO_8.out⟩, ⟨by (with_reducible repeat (first | apply Kd.R_alloc | apply Kd.R_drewN | apply Kd.R_drew)); exact Kd.R_mono HO_9.out (fun _ hk => by exact hk.2)⟩, ⟨by (with_reducible repeat (first | apply Kd.R_alloc | apply Kd.R_drewN | apply Kd.R_drew)); exact HO_10.out⟩, ⟨by repeat ((with_reducible exact HB.out))⟩⟩
   rw [if_neg c37] at H
   have c37b0 : decide (x11_1 < (t418.length : Int)) = false := decide_eq_false c37
   clear c37
   have H' := Aside0.mk H
   clear H
   go_wp2
   go_loopg [12] k1 (fun kq v12 w' => ∃ (x9_2 : List Int) (x10_2 : List Int) (x12_2 : Int), v12 = .int .i64 x12_2 ∧ Aside0 (laws_FnEvicted.l1 kq t418 t419 t420 t421 t427 x9_2 x10_2 x12_2 = some r) ∧ Aside0 (kq ≤ k1) ∧ Aside0 (Kd.S k26 26 w' w.heap.size (fun _ => True) (.slice Ao26 t418.length co26) t418) ∧ Aside0 (Kd.R k67 67 w' w.heap.size (fun _ => True) (.slice Ao29 t427.length co29) t427) ∧ Aside0 (Kd.R (Kd.int .i64) 3 w' w.heap.size (fun k_ => some k_ ≠ (v436 : Value).ownBlock) v433 x9_2) ∧ Aside0 (Kd.R (Kd.int .i64) 3 w' w.heap.size (fun k_ => some k_ ≠ (v433 : Value).ownBlock) v436 x10_2) ∧ Aside0 (Below w.heap.size w w'))
   case atStart => exact ⟨(y432), (x10_1), (0), (by rfl), H', ⟨Nat.le_refl _⟩, ⟨by (with_reducible repeat (first | apply Kd.S_alloc | apply Kd.S_drewN | apply Kd.S_drew)); exact HO_3.out⟩, ⟨by (with_reducible repeat (first | apply Kd.R_alloc | apply Kd.R_drewN | apply Kd.R_drew)); exact HO_8.out⟩, ⟨by (with_reducible repeat (first | apply Kd.R_alloc | apply Kd.R_drewN | apply Kd.R_drew)); exact HO_9.out⟩, ⟨by (with_reducible repeat (first | apply Kd.R_alloc | apply Kd.R_drewN | apply Kd.R_drew)); exact HO_10.out⟩, ⟨by repeat ((with_reducible exact HB.out))⟩⟩
   case round =>
    clear H'
    try clear c1
    try clear c2
    try clear p2
    try clear c3
    try clear c4
    try clear p4
    try clear q4
    try clear hx4
    try clear hf4
    try clear p6
    try clear c7
    try clear c7b0
    try clear c7b1
    try clear c7b2
    try clear c8
    try clear c9
    try clear c11
    try clear c11b0
    try clear c18
    try clear c21
    try clear c21b0
    try clear c21b1
    try clear c22
    try clear c22b0
    try clear c22b1
    try clear c23
    try clear c23b0
    try clear c23b1
    try clear c24
    try clear c24b0
    try clear c24b1
    try clear c37
    try clear c37b0
    try clear c38
    try clear c38b0
    try clear c39
    try clear c39b0
    try clear c40
    try clear p40
    try clear q40
    try clear hx40
    try clear hf40
    try clear c41
    try clear c42
    try clear hx40_0
    try clear p2
    try clear p40
    try clear p6
    try clear q40
    obtain ⟨x9_2, x10_2, x12_2, rfl, HA, HK2, HO_3, HO_8, HO_9, HO_10, HB⟩ := hrel
    cases gk with
    | zero => exact absurd HA.out (by simp [laws_FnEvicted.l1])
    | succ k2 =>
     have H := HA.out
     clear HA
     simp only [laws_FnEvicted.l1] at H
     by_cases c43 : x12_2 < (t427.length : Int)
     rotate_left
     ·
      rw [if_neg c43] at H
      have c43b0 : decide (x12_2 < (t427.length : Int)) = false := decide_eq_false c43
      clear c43
      have H' := Aside0.mk H
      clear H
      go_wp2
      go_loopg [14] k2 (fun kq v14 w' => ∃ (x14_3 : Int), v14 = .int .i64 x14_3 ∧ Aside0 (laws_FnEvicted.l3 kq t418 t419 t420 t421 t427 x9_2 x10_2 x14_3 = some r) ∧ Aside0 (kq ≤ k2) ∧ Aside0 (Kd.S k26 26 w' w.heap.size (fun _ => True) (.slice Ao26 t418.length co26) t418) ∧ Aside0 (Kd.R k67 67 w' w.heap.size (fun _ => True) (.slice Ao29 t427.length co29) t427) ∧ Aside0 (Kd.R (Kd.int .i64) 3 w' w.heap.size (fun k_ => some k_ ≠ (v436 : Value).ownBlock) v433 x9_2) ∧ Aside0 (Kd.R (Kd.int .i64) 3 w' w.heap.size (fun k_ => some k_ ≠ (v433 : Value).ownBlock) v436 x10_2) ∧ Aside0 (Below w.heap.size w w'))
      case atStart => exact ⟨(0), (by rfl), H', ⟨Nat.le_refl _⟩, ⟨by (with_reducible repeat (first | apply Kd.S_alloc | apply Kd.S_drewN | apply Kd.S_drew)); exact HO_3.out⟩, ⟨by (with_reducible repeat (first | apply Kd.R_alloc | apply Kd.R_drewN | apply Kd.R_drew)); exact HO_8.out⟩, ⟨by (with_reducible repeat (first | apply Kd.R_alloc | apply Kd.R_drewN | apply Kd.R_drew)); exact HO_9.out⟩, ⟨by (with_reducible repeat (first | apply Kd.R_alloc | apply Kd.R_drewN | apply Kd.R_drew)); exact HO_10.out⟩, ⟨by repeat ((with_reducible exact HB.out))⟩⟩
      case round =>
       clear H'
       try clear p2
       try clear c4
       try clear p4
       try clear q4
       try clear hx4
       try clear c5
       try clear c6
       try clear p6
       try clear q6
       try clear hx6
       try clear hf6
       try clear c43
       try clear c43b0
       try clear c44
       try clear p44
       try clear q44
       try clear hx44
       try clear c45
       try clear p45
       try clear q45
       try clear hx45
       try clear c46
       try clear c47
       try clear c48
       try clear c53
       try clear c53b0
       try clear c54
       try clear c55
       try clear c56
       try clear c57
       try clear c57b0
       try clear c57b1
       try clear c58
       try clear c61
       try clear c62
       try clear c64
       try clear p64
       try clear p65
       try clear q65
       try clear hx65
       try clear hf65
       try clear hx444_0
       try clear hx444_1
       try clear hx444_2
       try clear hx445_0
       try clear hx445_1
       try clear hx446_0
       try clear hx450_0
       try clear hx450_1
       try clear hx451_0
       try clear hx452_0
       try clear hx452_1
       try clear hx452_2
       try clear hx454_0
       try clear hx454_1
       try clear hx65_0
       try clear p444
       try clear p445
       try clear p446
       try clear p450
       try clear p451
       try clear p452
       try clear p454
       try clear p65
       try clear q444
       try clear q445
       try clear q446
       try clear q450
       try clear q451
       try clear q452
       try clear q454
       try clear q65
       obtain ⟨x14_3, rfl, HA, HK3, HO_3, HO_8, HO_9, HO_10, HB⟩ := hrel
       cases gk with
       | zero => exact absurd HA.out (by simp [laws_FnEvicted.l3])
       | succ k3 =>
        have H := HA.out
        clear HA
        simp only [laws_FnEvicted.l3] at H
        by_cases c75 : x14_3 < (t418.length : Int)
        rotate_left
        ·
         rw [if_neg c75] at H
         have c75b0 : decide (x14_3 < (t418.length : Int)) = false := decide_eq_false c75
         clear c75
         have H' := Aside0.mk H
         clear H
         go_wp2
         go_loopg [16] k3 (fun kq v16 w' => ∃ (x16_4 : Int), v16 = .int .i64 x16_4 ∧ Aside0 (laws_FnEvicted.l5 kq t418 t419 t420 t421 t427 x9_2 x16_4 = some r) ∧ Aside0 (kq ≤ k3) ∧ Aside0 (Kd.S k26 26 w' w.heap.size (fun _ => True) (.slice Ao26 t418.length co26) t418) ∧ Aside0 (Kd.R k67 67 w' w.heap.size (fun _ => True) (.slice Ao29 t427.length co29) t427) ∧ Aside0 (Kd.R (Kd.int .i64) 3 w' w.heap.size (fun _ => True) v433 x9_2) ∧ Aside0 (Below w.heap.size w w'))
         case atStart => exact ⟨(0), (by rfl), H', ⟨Nat.le_refl _⟩, ⟨by (with_reducible repeat (first | apply Kd.S_alloc | apply Kd.S_drewN | apply Kd.S_drew)); exact HO_3.out⟩, ⟨by (with_reducible repeat (first | apply Kd.R_alloc | apply Kd.R_drewN | apply Kd.R_drew)); exact HO_8.out⟩, ⟨by (with_reducible repeat (first | apply Kd.R_alloc | apply Kd.R_drewN | apply Kd.R_drew)); exact Kd.R_mono HO_9.out (fun _ hk => trivial)⟩, ⟨by repeat ((with_reducible exact HB.out))⟩⟩
         case round =>
          clear H'
          try clear p2
          try clear c4
          try clear p4
          try clear q4
          try clear hx4
          try clear c5
          try clear c6
          try clear p6
          try clear q6
          try clear hx6
          try clear hf6
          try clear c7
          try clear c8
          try clear c43
          try clear c43b0
          try clear c44
          try clear p44
          try clear q44
          try clear hx44
          try clear c45
          try clear p45
          try clear q45
          try clear hx45
          try clear c46
          try clear c47
          try clear c48
          try clear c53
          try clear c53b0
          try clear c54
          try clear c55
          try clear c56
          try clear c57
          try clear c57b0
          try clear c57b1
          try clear c58
          try clear c61
          try clear c62
          try clear c64
          try clear p64
          try clear p65
          try clear q65
          try clear hx65
          try clear hf65
          try clear c75
          try clear c75b0
          try clear c76
          try clear c76b0
          try clear c77
          try clear c77b0
          try clear c79
          try clear c79b0
          try clear c80
          try clear c80b0
          try clear c82
          try clear c82b0
          try clear c83
          try clear c83b0
          try clear c84
          try clear c84b0
          try clear c85
          try clear c85b0
          try clear hx444_0
          try clear hx444_1
          try clear hx444_2
          try clear hx445_0
          try clear hx445_1
          try clear hx446_0
          try clear hx450_0
          try clear hx450_1
          try clear hx451_0
          try clear hx452_0
          try clear hx452_1
          try clear hx452_2
          try clear hx454_0
          try clear hx454_1
          try clear hx456_0
          try clear hx457_0
          try clear hx457_1
          try clear hx457_2
          try clear hx459_0
          try clear hx65_0
          try clear p2
          try clear p4
          try clear p44
          try clear p444
          try clear p445
          try clear p446
          try clear p45
          try clear p450
          try clear p451
          try clear p452
          try clear p454
          try clear p456
          try clear p457
          try clear p459
          try clear p6
          try clear p64
          try clear p65
          try clear q4
          try clear q44
          try clear q444
          try clear q445
          try clear q446
          try clear q45
          try clear q450
          try clear q451
          try clear q452
          try clear q454
          try clear q456
          try clear q457
          try clear q459
          try clear q6
          try clear q65
          obtain ⟨x16_4, rfl, HA, HK4, HO_3, HO_8, HO_9, HB⟩ := hrel
          cases gk with
          | zero => exact absurd HA.out (by simp [laws_FnEvicted.l5])
          | succ k4 =>
           have H := HA.out
           clear HA
           simp only [laws_FnEvicted.l5] at H
           by_cases c89 : x16_4 ≤ t419
           rotate_left
           ·
            rw [if_neg c89] at H
            have c89b0 : decide (x16_4 ≤ t419) = false := decide_eq_false c89
            clear c89
            replace H := Option.bind_eq_some_iff.mp H
            obtain ⟨t461, A940, H⟩ := H
            replace H : (some ((t461.length : Int) == (wrap64 ((t418.length : Int) - (t427.length : Int))))) = some r := H
            have A94 := Aside0.mk A940
            clear A940
            obtain rfl := Option.some.inj H
            go_wp2_with (((with_reducible refine gate_callee (f := 47) rfl ?_); refine goesL_ (some 198) rfl rfl Try.func47 (by kernel_rfl) rfl #[.slice Ao26 t418.length co26, .int .i64 t419, .int .i64 t420, .int .i64 t421] rfl (by (try simp only [List.map_toArray, List.map_cons, List.map_nil]); rfl) ?_; (with_reducible refine (impl_EvictRest.calls k4 _ _ t418 t419 t420 t421 t461 _ ?side1 ?side2 A94.out).mono ?_); (case side1 => repeat (exact (Kd.S_reads' HO_3.out).2.2)); (case side2 => exact (Kd.S_reads' HO_3.out).2.1); rintro e w95 ⟨v462, rfl, ho0, hb⟩; refine ⟨_, rfl, ?_⟩; have n0_ := Aside0.mk (Kd.S_told (Kd.S_old (by (with_reducible repeat (first | apply Kd.S_alloc | apply Kd.S_drewN | apply Kd.S_drew)); exact HO_3.out) hb) (Kd.S_base ho0)); have n1_ := Aside0.mk (Kd.R_below (by (with_reducible repeat (first | apply Kd.R_alloc | apply Kd.R_drewN | apply Kd.R_drew)); exact HO_8.out) hb); have n2_ := Aside0.mk (Kd.R_below (by (with_reducible repeat (first | apply Kd.R_alloc | apply Kd.R_drewN | apply Kd.R_drew)); exact HO_9.out) hb); have n3_ := Aside0.mk (Kd.S_lower (Kd.S_new' (deep_new ho0) (Kd.S_lt (by (with_reducible repeat (first | apply Kd.S_alloc | apply Kd.S_drewN | apply Kd.S_drew)); exact HO_3.out))) (below_size (by repeat ((with_reducible exact HB.out))))); have n4_ := Aside0.mk (below_step (by repeat ((with_reducible exact HB.out))) hb); clear HO_3; clear HO_8; clear HO_9; clear HB; have HO_3 := n0_; have HO_8 := n1_; have HO_9 := n2_; have HO463 := n3_; have HB := n4_; clear n0_ n1_ n2_ n3_ n4_; (try clear hb); (try clear hb2); (try clear hk); (try clear hi); (try clear ho0); obtain ⟨Ao96, co96, eo96⟩ := Kd.S_slice HO463.out; subst eo96))
            go_ret
            exact ⟨by rfl, by repeat ((with_reducible exact HB.out))⟩
           rw [if_pos c89] at H
           have c89b0 : decide (x16_4 ≤ t419) = true := decide_eq_true c89
           clear c89
           by_cases c90 : 0 ≤ x16_4
           rotate_left
           ·
            rw [if_neg c90] at H
            exact absurd H (by simp)
           rw [if_pos c90] at H
           have c90b0 : decide (0 ≤ x16_4) = true := decide_eq_true c90
           clear c90
           by_cases c91 : x16_4 < (x9_2.length : Int)
           rotate_left
           ·
            rw [if_neg c91] at H
            exact absurd H (by simp)
           rw [if_pos c91] at H
           have c91b0 : decide (x16_4 < (x9_2.length : Int)) = true := decide_eq_true c91
           clear c91
           by_cases c92 : (rd x9_2 x16_4) > 4
           ·
            rw [if_pos c92] at H
            have c92b0 : decide (4 < (rd x9_2 x16_4)) = true := decide_eq_true c92
            clear c92
            exact absurd ((Option.some.inj H).trans HTRUE_.out) (by decide)
           rw [if_neg c92] at H
           have c92b0 : decide (4 < (rd x9_2 x16_4)) = false := decide_eq_false c92
           clear c92
           have H' := Aside0.mk H
           clear H
           obtain ⟨Ao93, co93, eo93⟩ := Kd.R_slice HO_9.out
           subst eo93
           have p460 : 0 ≤ (x16_4 : Int) := of_decide_eq_true (by (with_reducible assumption))
           have q460 : x16_4 < (x9_2.length : Int) := of_decide_eq_true (by (with_reducible assumption))
           obtain ⟨ad460, e460, hx460_0⟩ := Kd.at_int (Kd.R_reads' HO_9.out).2.2 x16_4 p460 q460
           cases e460
           replace p460 := eq_true p460
           replace q460 := eq_true q460
           go_wp2
           go_roundg k4
           case measure => have := HK1.out; have := HK2.out; have := HK3.out; have := HK4.out; omega
           case rel => exact ⟨(wrap64 (x16_4 + 1)), (by rfl), H', ⟨by have := HK1.out; have := HK2.out; have := HK3.out; have := HK4.out; omega⟩, ⟨by (with_reducible repeat (first | apply Kd.S_alloc | apply Kd.S_drewN | apply Kd.S_drew)); exact HO_3.out⟩, ⟨by (with_reducible repeat (first | apply Kd.R_alloc | apply Kd.R_drewN | apply Kd.R_drew)); exact HO_8.out⟩, ⟨by (with_reducible repeat (first | apply Kd.R_alloc | apply Kd.R_drewN | apply Kd.R_drew)); exact HO_9.out⟩, ⟨by repeat ((with_reducible exact HB.out))⟩⟩
        rw [if_pos c75] at H
        have c75b0 : decide (x14_3 < (t418.length : Int)) = true := decide_eq_true c75
        clear c75
        by_cases c76 : 0 ≤ x14_3
        rotate_left
        ·
         rw [if_neg c76] at H
         exact absurd H (by simp)
        rw [if_pos c76] at H
        have c76b0 : decide (0 ≤ x14_3) = true := decide_eq_true c76
        clear c76
        by_cases c77 : x14_3 < (x10_2.length : Int)
        rotate_left
        ·
         rw [if_neg c77] at H
         exact absurd H (by simp)
        rw [if_pos c77] at H
        have c77b0 : decide (x14_3 < (x10_2.length : Int)) = true := decide_eq_true c77
        clear c77
        have H' := Aside0.mk H
        clear H
        obtain ⟨Ao78, co78, eo78⟩ := Kd.R_slice HO_10.out
        subst eo78
        have p456 : 0 ≤ (x14_3 : Int) := of_decide_eq_true (by (with_reducible assumption))
        have q456 : x14_3 < (x10_2.length : Int) := of_decide_eq_true (by (with_reducible assumption))
        obtain ⟨ad456, e456, hx456_0⟩ := Kd.at_int (Kd.R_reads' HO_10.out).2.2 x14_3 p456 q456
        cases e456
        replace p456 := eq_true p456
        replace q456 := eq_true q456
        go_wp2
        go_loopg [15] k3 (fun kq v15 w' => ∃ (x15_4 : Int), v15 = .int .i64 x15_4 ∧ Aside0 (laws_FnEvicted.l4 kq t418 t419 t420 t421 t427 x9_2 x10_2 x14_3 x15_4 = some r) ∧ Aside0 (kq ≤ k3) ∧ Aside0 (Kd.S k26 26 w' w.heap.size (fun _ => True) (.slice Ao26 t418.length co26) t418) ∧ Aside0 (Kd.R k67 67 w' w.heap.size (fun _ => True) (.slice Ao29 t427.length co29) t427) ∧ Aside0 (Kd.R (Kd.int .i64) 3 w' w.heap.size (fun k_ => some k_ ≠ ((.slice (some ad456) x10_2.length co78) : Value).ownBlock) v433 x9_2) ∧ Aside0 (Kd.R (Kd.int .i64) 3 w' w.heap.size (fun k_ => some k_ ≠ (v433 : Value).ownBlock) (.slice (some ad456) x10_2.length co78) x10_2) ∧ Aside0 (Below w.heap.size w w'))
        case atStart => exact ⟨(wrap64 ((rd x10_2 x14_3) + 1)), (by rfl), H', ⟨Nat.le_refl _⟩, ⟨by (with_reducible repeat (first | apply Kd.S_alloc | apply Kd.S_drewN | apply Kd.S_drew)); exact HO_3.out⟩, ⟨by (with_reducible repeat (first | apply Kd.R_alloc | apply Kd.R_drewN | apply Kd.R_drew)); exact HO_8.out⟩, ⟨by (with_reducible repeat (first | apply Kd.R_alloc | apply Kd.R_drewN | apply Kd.R_drew)); exact HO_9.out⟩, ⟨by (with_reducible repeat (first | apply Kd.R_alloc | apply Kd.R_drewN | apply Kd.R_drew)); exact HO_10.out⟩, ⟨by repeat ((with_reducible exact HB.out))⟩⟩
        case round =>
         clear H'
         try clear p2
         try clear c4
         try clear p4
         try clear q4
         try clear hx4
         try clear c5
         try clear c6
         try clear p6
         try clear q6
         try clear hx6
         try clear hf6
         try clear c7
         try clear c43
         try clear c43b0
         try clear c44
         try clear p44
         try clear q44
         try clear hx44
         try clear c45
         try clear p45
         try clear q45
         try clear hx45
         try clear c46
         try clear c47
         try clear c48
         try clear c53
         try clear c53b0
         try clear c54
         try clear c55
         try clear c56
         try clear c57
         try clear c57b0
         try clear c57b1
         try clear c58
         try clear c61
         try clear c62
         try clear c64
         try clear p64
         try clear p65
         try clear q65
         try clear hx65
         try clear hf65
         try clear c75
         try clear c75b0
         try clear c76
         try clear c76b0
         try clear c77
         try clear c77b0
         try clear hx444_0
         try clear hx444_1
         try clear hx444_2
         try clear hx445_0
         try clear hx445_1
         try clear hx446_0
         try clear hx450_0
         try clear hx450_1
         try clear hx451_0
         try clear hx452_0
         try clear hx452_1
         try clear hx452_2
         try clear hx454_0
         try clear hx454_1
         try clear hx456_0
         try clear hx65_0
         try clear p2
         try clear p4
         try clear p44
         try clear p444
         try clear p445
         try clear p446
         try clear p45
         try clear p450
         try clear p451
         try clear p452
         try clear p454
         try clear p456
         try clear p6
         try clear p64
         try clear p65
         try clear q4
         try clear q44
         try clear q444
         try clear q445
         try clear q446
         try clear q45
         try clear q450
         try clear q451
         try clear q452
         try clear q454
         try clear q456
         try clear q6
         try clear q65
         obtain ⟨x15_4, rfl, HA, HK4, HO_3, HO_8, HO_9, HO_10, HB⟩ := hrel
         cases gk with
         | zero => exact absurd HA.out (by simp [laws_FnEvicted.l4])
         | succ k4 =>
          have H := HA.out
          clear HA
          simp only [laws_FnEvicted.l4] at H
          by_cases c79 : 0 ≤ x14_3
          rotate_left
          ·
           rw [if_neg c79] at H
           exact absurd H (by simp)
          rw [if_pos c79] at H
          have c79b0 : decide (0 ≤ x14_3) = true := decide_eq_true c79
          clear c79
          by_cases c80 : x14_3 < (t418.length : Int)
          rotate_left
          ·
           rw [if_neg c80] at H
           exact absurd H (by simp)
          rw [if_pos c80] at H
          have c80b0 : decide (x14_3 < (t418.length : Int)) = true := decide_eq_true c80
          clear c80
          replace H := Option.bind_eq_some_iff.mp H
          obtain ⟨t458, A810, H⟩ := H
          replace H : (if x15_4 ≤ t458 then (if 0 ≤ x15_4 then (if x15_4 < (x9_2.length : Int) then (if (rd x9_2 x15_4) < 4 then (some false) else (laws_FnEvicted.l4 k4 t418 t419 t420 t421 t427 x9_2 x10_2 x14_3 (wrap64 (x15_4 + 1)))) else (none)) else (none)) else (laws_FnEvicted.l3 k4 t418 t419 t420 t421 t427 x9_2 x10_2 (wrap64 (x14_3 + 1)))) = some r := H
          have A81 := Aside0.mk A810
          clear A810
          by_cases c82 : x15_4 ≤ t458
          rotate_left
          ·
           rw [if_neg c82] at H
           have c82b0 : decide (x15_4 ≤ t458) = false := decide_eq_false c82
           clear c82
           have H' := Aside0.mk H
           clear H
           have p457 : 0 ≤ (x14_3 : Int) := of_decide_eq_true (by (with_reducible assumption))
           have q457 : x14_3 < (t418.length : Int) := of_decide_eq_true (by (with_reducible assumption))
           obtain ⟨ad457, A457_2, c457_2, e457, hx457_0, hx457_1, hx457_2, hl457_2, hi457_2⟩ := at_T26 (Kd.S_reads' HO_3.out).2.2 x14_3 p457 q457
           cases e457
           obtain ⟨ce457, hce457, hMe457, hcc457⟩ := Kd.S_get HO_3.out z26 x14_3 p457 (by exact q457)
           obtain ⟨ve457_2, rfl, ge457_2⟩ := k26_openM hMe457
           have hv457_2 := hcc457 2 _ rfl
           rw [add_field _ _ 2 (by omega)] at hv457_2
           replace hv457_2 := Option.some.inj (hv457_2.symm.trans hx457_2)
           rw [hv457_2] at ge457_2
           have HL457_2 := Aside0.mk (show Kd.R (Kd.int .u8) 5 _ _ _ _ ((rd_T26 t418 x14_3).f2) from ge457_2)
           clear hv457_2 ge457_2
           clear hcc457 hce457
           have HR457_2 := Aside0.mk hi457_2
           have HC457_2 := Aside0.mk hl457_2
           clear hi457_2 hl457_2
           replace p457 := eq_true p457
           replace q457 := eq_true q457
           go_wp2_with (((with_reducible refine gate_callee (f := 44) rfl ?_); refine goesL_ (some 175) rfl rfl Try.func44 (by kernel_rfl) rfl #[.int .i64 t419, .int .i64 ((rd_T26 t418 x14_3).f1), .int .i64 t421] rfl (by (try simp only [List.map_toArray, List.map_cons, List.map_nil]); rfl) ?_; (with_reducible refine (spec_Meet.calls k4 t419 ((rd_T26 t418 x14_3).f1) t421 t458 _ A81.out).mono ?_); rintro e w88 ⟨rfl, hb⟩; refine ⟨_, rfl, ?_⟩; have n0_ := Aside0.mk (Kd.S_below (by (with_reducible repeat (first | apply Kd.S_alloc | apply Kd.S_drewN | apply Kd.S_drew)); exact HO_3.out) hb); have n1_ := Aside0.mk (Kd.R_below (by (with_reducible repeat (first | apply Kd.R_alloc | apply Kd.R_drewN | apply Kd.R_drew)); exact HO_8.out) hb); have n2_ := Aside0.mk (Kd.R_below (by (with_reducible repeat (first | apply Kd.R_alloc | apply Kd.R_drewN | apply Kd.R_drew)); exact HO_9.out) hb); have n3_ := Aside0.mk (Kd.R_below (by (with_reducible repeat (first | apply Kd.R_alloc | apply Kd.R_drewN | apply Kd.R_drew)); exact HO_10.out) hb); have n4_ := Aside0.mk (Kd.R_below (by (with_reducible repeat (first | apply Kd.R_alloc | apply Kd.R_drewN | apply Kd.R_drew)); exact HL457_2.out) hb); have n5_ := Aside0.mk (Kd.C_below (by repeat ((with_reducible exact HR457_2.out))) hb); have n6_ := Aside0.mk (below_step (by repeat ((with_reducible exact HB.out))) hb); clear HO_3; clear HO_8; clear HO_9; clear HO_10; clear HL457_2; clear HR457_2; clear HB; have HO_3 := n0_; have HO_8 := n1_; have HO_9 := n2_; have HO_10 := n3_; have HL457_2 := n4_; have HR457_2 := n5_; have HB := n6_; clear n0_ n1_ n2_ n3_ n4_ n5_ n6_; (try clear hb); (try clear hb2); (try clear hk); (try clear hi)))
           go_roundg k4
           case measure => have := HK1.out; have := HK2.out; have := HK3.out; have := HK4.out; omega
           case rel => exact ⟨(wrap64 (x14_3 + 1)), (by rfl), H', ⟨by have := HK1.out; have := HK2.out; have := HK3.out; have := HK4.out; omega⟩, ⟨by (with_reducible repeat (first | apply Kd.S_alloc | apply Kd.S_drewN | apply Kd.S_drew)); exact HO_3.out⟩, ⟨by (with_reducible repeat (first | apply Kd.R_alloc | apply Kd.R_drewN | apply Kd.R_drew)); exact HO_8.out⟩, ⟨by (with_reducible repeat (first | apply Kd.R_alloc | apply Kd.R_drewN | apply Kd.R_drew)); exact HO_9.out⟩, ⟨by (with_reducible repeat (first | apply Kd.R_alloc | apply Kd.R_drewN | apply Kd.R_drew)); exact HO_10.out⟩, ⟨by repeat ((with_reducible exact HB.out))⟩⟩
          rw [if_pos c82] at H
          have c82b0 : decide (x15_4 ≤ t458) = true := decide_eq_true c82
          clear c82
          by_cases c83 : 0 ≤ x15_4
          rotate_left
          ·
           rw [if_neg c83] at H
           exact absurd H (by simp)
          rw [if_pos c83] at H
          have c83b0 : decide (0 ≤ x15_4) = true := decide_eq_true c83
          clear c83
          by_cases c84 : x15_4 < (x9_2.length : Int)
          rotate_left
          ·
           rw [if_neg c84] at H
           exact absurd H (by simp)
          rw [if_pos c84] at H
          have c84b0 : decide (x15_4 < (x9_2.length : Int)) = true := decide_eq_true c84
          clear c84
          by_cases c85 : (rd x9_2 x15_4) < 4
          ·
           rw [if_pos c85] at H
           have c85b0 : decide ((rd x9_2 x15_4) < 4) = true := decide_eq_true c85
           clear c85
           exact absurd ((Option.some.inj H).trans HTRUE_.out) (by decide)
          rw [if_neg c85] at H
          have c85b0 : decide ((rd x9_2 x15_4) < 4) = false := decide_eq_false c85
          clear c85
          have H' := Aside0.mk H
          clear H
          have p457 : 0 ≤ (x14_3 : Int) := of_decide_eq_true (by (with_reducible assumption))
          have q457 : x14_3 < (t418.length : Int) := of_decide_eq_true (by (with_reducible assumption))
          obtain ⟨ad457, A457_2, c457_2, e457, hx457_0, hx457_1, hx457_2, hl457_2, hi457_2⟩ := at_T26 (Kd.S_reads' HO_3.out).2.2 x14_3 p457 q457
          cases e457
          obtain ⟨ce457, hce457, hMe457, hcc457⟩ := Kd.S_get HO_3.out z26 x14_3 p457 (by exact q457)
          obtain ⟨ve457_2, rfl, ge457_2⟩ := k26_openM hMe457
          have hv457_2 := hcc457 2 _ rfl
          rw [add_field _ _ 2 (by omega)] at hv457_2
          replace hv457_2 := Option.some.inj (hv457_2.symm.trans hx457_2)
          rw [hv457_2] at ge457_2
          have HL457_2 := Aside0.mk (show Kd.R (Kd.int .u8) 5 _ _ _ _ ((rd_T26 t418 x14_3).f2) from ge457_2)
          clear hv457_2 ge457_2
          clear hcc457 hce457
          have HR457_2 := Aside0.mk hi457_2
          have HC457_2 := Aside0.mk hl457_2
          clear hi457_2 hl457_2
          replace p457 := eq_true p457
          replace q457 := eq_true q457
          go_wp2_with (((with_reducible refine gate_callee (f := 44) rfl ?_); refine goesL_ (some 175) rfl rfl Try.func44 (by kernel_rfl) rfl #[.int .i64 t419, .int .i64 ((rd_T26 t418 x14_3).f1), .int .i64 t421] rfl (by (try simp only [List.map_toArray, List.map_cons, List.map_nil]); rfl) ?_; (with_reducible refine (spec_Meet.calls k4 t419 ((rd_T26 t418 x14_3).f1) t421 t458 _ A81.out).mono ?_); rintro e w86 ⟨rfl, hb⟩; refine ⟨_, rfl, ?_⟩; have n0_ := Aside0.mk (Kd.S_below (by (with_reducible repeat (first | apply Kd.S_alloc | apply Kd.S_drewN | apply Kd.S_drew)); exact HO_3.out) hb); have n1_ := Aside0.mk (Kd.R_below (by (with_reducible repeat (first | apply Kd.R_alloc | apply Kd.R_drewN | apply Kd.R_drew)); exact HO_8.out) hb); have n2_ := Aside0.mk (Kd.R_below (by (with_reducible repeat (first | apply Kd.R_alloc | apply Kd.R_drewN | apply Kd.R_drew)); exact HO_9.out) hb); have n3_ := Aside0.mk (Kd.R_below (by (with_reducible repeat (first | apply Kd.R_alloc | apply Kd.R_drewN | apply Kd.R_drew)); exact HO_10.out) hb); have n4_ := Aside0.mk (Kd.R_below (by (with_reducible repeat (first | apply Kd.R_alloc | apply Kd.R_drewN | apply Kd.R_drew)); exact HL457_2.out) hb); have n5_ := Aside0.mk (Kd.C_below (by repeat ((with_reducible exact HR457_2.out))) hb); have n6_ := Aside0.mk (below_step (by repeat ((with_reducible exact HB.out))) hb); clear HO_3; clear HO_8; clear HO_9; clear HO_10; clear HL457_2; clear HR457_2; clear HB; have HO_3 := n0_; have HO_8 := n1_; have HO_9 := n2_; have HO_10 := n3_; have HL457_2 := n4_; have HR457_2 := n5_; have HB := n6_; clear n0_ n1_ n2_ n3_ n4_ n5_ n6_; (try clear hb); (try clear hb2); (try clear hk); (try clear hi); obtain ⟨Ao87, co87, eo87⟩ := Kd.R_slice HO_9.out; subst eo87; have p459 : 0 ≤ (x15_4 : Int) := of_decide_eq_true (by (with_reducible assumption)); have q459 : x15_4 < (x9_2.length : Int) := of_decide_eq_true (by (with_reducible assumption)); obtain ⟨ad459, e459, hx459_0⟩ := Kd.at_int (Kd.R_reads' HO_9.out).2.2 x15_4 p459 q459; cases e459; replace p459 := eq_true p459; replace q459 := eq_true q459))
          go_roundg k4
          case measure => have := HK1.out; have := HK2.out; have := HK3.out; have := HK4.out; omega
          case rel => exact ⟨(wrap64 (x15_4 + 1)), (by rfl), H', ⟨by have := HK1.out; have := HK2.out; have := HK3.out; have := HK4.out; omega⟩, ⟨by (with_reducible repeat (first | apply Kd.S_alloc | apply Kd.S_drewN | apply Kd.S_drew)); exact HO_3.out⟩, ⟨by (with_reducible repeat (first | apply Kd.R_alloc | apply Kd.R_drewN | apply Kd.R_drew)); exact HO_8.out⟩, ⟨by (with_reducible repeat (first | apply Kd.R_alloc | apply Kd.R_drewN | apply Kd.R_drew)); exact HO_9.out⟩, ⟨by (with_reducible repeat (first | apply Kd.R_alloc | apply Kd.R_drewN | apply Kd.R_drew)); exact HO_10.out⟩, ⟨by repeat ((with_reducible exact HB.out))⟩⟩
     rw [if_pos c43] at H
     have c43b0 : decide (x12_2 < (t427.length : Int)) = true := decide_eq_true c43
     clear c43
     by_cases c44 : 0 ≤ x12_2
     rotate_left
     ·
      rw [if_neg c44] at H
      exact absurd H (by simp)
     rw [if_pos c44] at H
     have c44b0 : decide (0 ≤ x12_2) = true := decide_eq_true c44
     clear c44
     by_cases c45 : ((rd_T67 t427 x12_2).f0) < 0
     ·
      rw [if_pos c45] at H
      have c45b0 : decide (((rd_T67 t427 x12_2).f0) < 0) = true := decide_eq_true c45
      clear c45
      exact absurd ((Option.some.inj H).trans HTRUE_.out) (by decide)
     rw [if_neg c45] at H
     have c45b0 : decide (((rd_T67 t427 x12_2).f0) < 0) = false := decide_eq_false c45
     clear c45
     by_cases c46 : ((rd_T67 t427 x12_2).f0) > t419
     ·
      rw [if_pos c46] at H
      have c46b0 : decide (t419 < ((rd_T67 t427 x12_2).f0)) = true := decide_eq_true c46
      clear c46
      exact absurd ((Option.some.inj H).trans HTRUE_.out) (by decide)
     rw [if_neg c46] at H
     have c46b0 : decide (t419 < ((rd_T67 t427 x12_2).f0)) = false := decide_eq_false c46
     clear c46
     by_cases c47 : 0 ≤ ((rd_T67 t427 x12_2).f0)
     rotate_left
     ·
      rw [if_neg c47] at H
      exact absurd H (by simp)
     rw [if_pos c47] at H
     have c47b0 : decide (0 ≤ ((rd_T67 t427 x12_2).f0)) = true := decide_eq_true c47
     clear c47
     by_cases c48 : ((rd_T67 t427 x12_2).f0) < (x9_2.length : Int)
     rotate_left
     ·
      rw [if_neg c48] at H
      exact absurd H (by simp)
     rw [if_pos c48] at H
     have c48b0 : decide (((rd_T67 t427 x12_2).f0) < (x9_2.length : Int)) = true := decide_eq_true c48
     clear c48
     obtain ⟨y443, hy443⟩ : ∃ y_ : List Int, y_ = (x9_2.set (((rd_T67 t427 x12_2).f0) : Int).toNat (wrap64 ((rd x9_2 ((rd_T67 t427 x12_2).f0)) + 1))) := ⟨_, rfl⟩
     replace H : (laws_FnEvicted.l2 k2 t418 t419 t420 t421 t427 y443 x10_2 x12_2 0) = some r := by (rw [hy443]; with_reducible exact H)
     have Ny443 := Aside0.mk hy443
     clear hy443
     have H' := Aside0.mk H
     clear H
     have p439 : 0 ≤ (x12_2 : Int) := of_decide_eq_true (by (with_reducible assumption))
     have q439 : x12_2 < (t427.length : Int) := of_decide_eq_true (by (with_reducible assumption))
     obtain ⟨ad439, e439, hx439_0, hx439_1⟩ := at_T67 (Kd.R_reads' HO_8.out).2.2 x12_2 p439 q439
     cases e439
     replace p439 := eq_true p439
     replace q439 := eq_true q439
     have p440 : 0 ≤ (x12_2 : Int) := of_decide_eq_true (by (with_reducible assumption))
     have q440 : x12_2 < (t427.length : Int) := of_decide_eq_true (by (with_reducible assumption))
     obtain ⟨ad440, e440, hx440_0, hx440_1⟩ := at_T67 (Kd.R_reads' HO_8.out).2.2 x12_2 p440 q440
     obtain rfl : ad439 = ad440 := (by injection e440)
     replace p440 := eq_true p440
     replace q440 := eq_true q440
     have p441 : 0 ≤ (x12_2 : Int) := of_decide_eq_true (by (with_reducible assumption))
     have q441 : x12_2 < (t427.length : Int) := of_decide_eq_true (by (with_reducible assumption))
     obtain ⟨ad441, e441, hx441_0, hx441_1⟩ := at_T67 (Kd.R_reads' HO_8.out).2.2 x12_2 p441 q441
     obtain rfl : ad439 = ad441 := (by injection e441)
     replace p441 := eq_true p441
     replace q441 := eq_true q441
     obtain ⟨Ao50, co50, eo50⟩ := Kd.R_slice HO_9.out
     subst eo50
     have p442 : 0 ≤ (((rd_T67 t427 x12_2).f0) : Int) := of_decide_eq_true (by (with_reducible assumption))
     have q442 : ((rd_T67 t427 x12_2).f0) < (x9_2.length : Int) := of_decide_eq_true (by (with_reducible assumption))
     obtain ⟨ad442, e442, hx442_0⟩ := Kd.at_int (Kd.R_reads' HO_9.out).2.2 ((rd_T67 t427 x12_2).f0) p442 q442
     cases e442
     replace p442 := eq_true p442
     replace q442 := eq_true q442
     have p49 : 0 ≤ (((rd_T67 t427 x12_2).f0) : Int) := of_decide_eq_true (by (with_reducible assumption))
     have q49 : (((rd_T67 t427 x12_2).f0) : Int) < ((x9_2.length : Int) : Int) := of_decide_eq_true (by (with_reducible assumption))
     obtain ⟨go49, co49, eo49, gb49, gl49, cl49, HG49⟩ := Kd.R_form HO_9.out (by omega)
     (cases eo49)
     have GB49 := Aside0.mk gb49
     have GG49 := Aside0.mk HG49
     clear gb49 gl49 HG49
     (simp only [add_plain] at hx442_0)
     obtain ⟨hx49_0, hf49_0⟩ := Kd.R_celln 0 HO_9.out (((rd_T67 t427 x12_2).f0) : Int) p49 q49
     replace p49 := eq_true p49
     replace q49 := eq_true q49
     have HP51 := Kd.R_putg HO_9.out (((rd_T67 t427 x12_2).f0) : Int) (wrap64 ((rd x9_2 ((rd_T67 t427 x12_2).f0)) + 1))
     go_wp2_with (((with_reducible refine gate_store (t := 3) (p := 105) rfl ?_); refine store_event (t := 3) (p := 105) (v := ?vo_w52) (w1 := (wr.setCell ⟨go49, (((rd_T67 t427 x12_2).f0) : Int).toNat, none⟩ (.int .i64 (wrap64 ((rd x9_2 ((rd_T67 t427 x12_2).f0)) + 1))))) ?hg ?ho ?hn ?hr ?_; (case ho => rfl); (case hg => rfl); (case hn => rfl); (case hr => (go_simp; done)); intro w52 hw; have hg : wr.grownBy w52 (some go49) := (by rw [hw]; exact HP51.2); have hp_ : Kd.R (Kd.int .i64) 3 w52 w.heap.size (fun k_ => some k_ ≠ (v436 : Value).ownBlock) (.slice (some ⟨go49, 0, none⟩) x9_2.length co50) y443 := (by rw [hw, Ny443.out]; exact HP51.1); clear HP51; have n0_ := Aside0.mk (Kd.S_over' (v := (.slice (some ⟨go49, 0, none⟩) x9_2.length co50)) (by (with_reducible repeat (first | apply Kd.S_alloc | apply Kd.S_drewN | apply Kd.S_drew)); exact HO_3.out) (Kd.R_typed HO_9.out) (by decide) hg); have n1_ := Aside0.mk (Kd.R_over' (v := (.slice (some ⟨go49, 0, none⟩) x9_2.length co50)) (by (with_reducible repeat (first | apply Kd.R_alloc | apply Kd.R_drewN | apply Kd.R_drew)); exact HO_8.out) (Kd.R_typed HO_9.out) (by decide) hg); have n2_ := Aside0.mk (hp_); have n3_ := Aside0.mk (Kd.R_after (v := (.slice (some ⟨go49, 0, none⟩) x9_2.length co50)) (v1 := (.slice (some ⟨go49, 0, none⟩) x9_2.length co50)) (ok := (fun _ => True)) (by (with_reducible repeat (first | apply Kd.R_alloc | apply Kd.R_drewN | apply Kd.R_drew)); exact Kd.R_mono HO_10.out (fun _ hk => ⟨trivial, hk⟩)) hg (.inl rfl)); have n4_ := Aside0.mk ((by rw [hw]; exact below_set (HB.out) GB49.out : Below w.heap.size w w52)); clear HO_3; clear HO_8; clear HO_9; clear HO_10; clear HB; have HO_3 := n0_; have HO_8 := n1_; have HO_9 := n2_; have HO_10 := n3_; have HB := n4_; clear n0_ n1_ n2_ n3_ n4_; clear hg hw hp_))
     go_loopg [13] k2 (fun kq v13 w' => ∃ (x10_3 : List Int) (x13_3 : Int), v13 = .int .i64 x13_3 ∧ Aside0 (laws_FnEvicted.l2 kq t418 t419 t420 t421 t427 y443 x10_3 x12_2 x13_3 = some r) ∧ Aside0 (kq ≤ k2) ∧ Aside0 (Kd.S k26 26 w' w.heap.size (fun _ => True) (.slice Ao26 t418.length co26) t418) ∧ Aside0 (Kd.R k67 67 w' w.heap.size (fun _ => True) (.slice (some ad439) t427.length co29) t427) ∧ Aside0 (Kd.R (Kd.int .i64) 3 w' w.heap.size (fun k_ => some k_ ≠ (v436 : Value).ownBlock) (.slice (some ⟨go49, 0, none⟩) x9_2.length co50) y443) ∧ Aside0 (Kd.R (Kd.int .i64) 3 w' w.heap.size (fun k_ => some k_ ≠ ((.slice (some ⟨go49, 0, none⟩) x9_2.length co50) : Value).ownBlock) v436 x10_3) ∧ Aside0 (Below w.heap.size w w'))
     case atStart => exact ⟨(x10_2), (0), (by rfl), H', ⟨Nat.le_refl _⟩, ⟨by (with_reducible repeat (first | apply Kd.S_alloc | apply Kd.S_drewN | apply Kd.S_drew)); exact HO_3.out⟩, ⟨by (with_reducible repeat (first | apply Kd.R_alloc | apply Kd.R_drewN | apply Kd.R_drew)); exact HO_8.out⟩, ⟨by (with_reducible repeat (first | apply Kd.R_alloc | apply Kd.R_drewN | apply Kd.R_drew)); exact HO_9.out⟩, ⟨by (with_reducible repeat (first | apply Kd.R_alloc | apply Kd.R_drewN | apply Kd.R_drew)); exact Kd.R_mono HO_10.out (fun _ hk => by exact hk.2)⟩, ⟨by repeat ((with_reducible exact HB.out))⟩⟩
     case round =>
      clear H'
      try clear c1
      try clear c2
      try clear p2
      try clear c3
      try clear c4
      try clear p4
      try clear q4
      try clear hx4
      try clear hf4
      try clear p6
      try clear c7
      try clear c7b0
      try clear c7b1
      try clear c7b2
      try clear c8
      try clear c9
      try clear c11
      try clear c11b0
      try clear c18
      try clear c21
      try clear c21b0
      try clear c21b1
      try clear c22
      try clear c22b0
      try clear c22b1
      try clear c23
      try clear c23b0
      try clear c23b1
      try clear c24
      try clear c24b0
      try clear c24b1
      try clear c37
      try clear c37b0
      try clear c38
      try clear c38b0
      try clear c39
      try clear c39b0
      try clear c40
      try clear p40
      try clear q40
      try clear hx40
      try clear hf40
      try clear c41
      try clear c42
      try clear c43
      try clear c43b0
      try clear p43
      try clear q43
      try clear hx43
      try clear c44
      try clear c44b0
      try clear p44
      try clear q44
      try clear hx44
      try clear c45
      try clear c45b0
      try clear c46
      try clear c46b0
      try clear c47
      try clear c47b0
      try clear c48
      try clear c48b0
      try clear p49
      try clear q49
      try clear hx49
      try clear hf49
      try clear hx40_0
      try clear hx439_0
      try clear hx439_1
      try clear hx440_0
      try clear hx440_1
      try clear hx441_0
      try clear hx441_1
      try clear hx442_0
      try clear hx49_0
      try clear p2
      try clear p4
      try clear p40
      try clear p439
      try clear p440
      try clear p441
      try clear p442
      try clear p49
      try clear p6
      try clear q4
      try clear q40
      try clear q439
      try clear q440
      try clear q441
      try clear q442
      try clear q49
      obtain ⟨x10_3, x13_3, rfl, HA, HK3, HO_3, HO_8, HO_9, HO_10, HB⟩ := hrel
      have hl9_3 := (Kd.R_reads' HO_9.out).1
      rw [hl9_3] at HO_9
      (try simp only [hl9_3])
      (try simp only [hl9_3] at HO_3)
      (try simp only [hl9_3] at HO_8)
      (try simp only [hl9_3] at HO_10)
      cases gk with
      | zero => exact absurd HA.out (by simp [laws_FnEvicted.l2])
      | succ k3 =>
       have H := HA.out
       clear HA
       simp only [laws_FnEvicted.l2] at H
       by_cases c53 : x13_3 < (t418.length : Int)
       rotate_left
       ·
        rw [if_neg c53] at H
        have c53b0 : decide (x13_3 < (t418.length : Int)) = false := decide_eq_false c53
        clear c53
        have H' := Aside0.mk H
        clear H
        go_wp2
        (try simp only [← hl9_3])
        go_roundg k3
        case measure => have := HK1.out; have := HK2.out; have := HK3.out; omega
        case rel => exact ⟨(y443), (x10_3), (wrap64 (x12_2 + 1)), (by rfl), H', ⟨by have := HK1.out; have := HK2.out; have := HK3.out; omega⟩, ⟨by (try simp only [hl9_3]); (with_reducible repeat (first | apply Kd.S_alloc | apply Kd.S_drewN | apply Kd.S_drew)); exact HO_3.out⟩, ⟨by (try simp only [hl9_3]); (with_reducible repeat (first | apply Kd.R_alloc | apply Kd.R_drewN | apply Kd.R_drew)); exact HO_8.out⟩, ⟨by (try simp only [hl9_3]); (with_reducible repeat (first | apply Kd.R_alloc | apply Kd.R_drewN | apply Kd.R_drew)); exact HO_9.out⟩, ⟨by (try simp only [hl9_3]); (with_reducible repeat (first | apply Kd.R_alloc | apply Kd.R_drewN | apply Kd.R_drew)); exact HO_10.out⟩, ⟨by repeat ((with_reducible exact HB.out))⟩⟩
       rw [if_pos c53] at H
       have c53b0 : decide (x13_3 < (t418.length : Int)) = true := decide_eq_true c53
       clear c53
       by_cases c54 : 0 ≤ x13_3
       rotate_left
       ·
        rw [if_neg c54] at H
        exact absurd H (by simp)
       rw [if_pos c54] at H
       have c54b0 : decide (0 ≤ x13_3) = true := decide_eq_true c54
       clear c54
       by_cases c55 : 0 ≤ x12_2
       rotate_left
       ·
        rw [if_neg c55] at H
        exact absurd H (by simp)
       rw [if_pos c55] at H
       have c55b0 : decide (0 ≤ x12_2) = true := decide_eq_true c55
       clear c55
       by_cases c56 : x12_2 < (t427.length : Int)
       rotate_left
       ·
        rw [if_neg c56] at H
        exact absurd H (by simp)
       rw [if_pos c56] at H
       have c56b0 : decide (x12_2 < (t427.length : Int)) = true := decide_eq_true c56
       clear c56
       by_cases c57 : ((rd_T26 t418 x13_3).f0) = ((rd_T67 t427 x12_2).f1)
       rotate_left
       ·
        rw [if_neg c57] at H
        have c57b0 : (((rd_T26 t418 x13_3).f0) == ((rd_T67 t427 x12_2).f1)) = false := beq_eq_false_iff_ne.mpr c57
        have c57b1 : (((rd_T26 t418 x13_3).f0) != ((rd_T67 t427 x12_2).f1)) = true := bne_iff_ne.mpr c57
        have H' := Aside0.mk H
        clear H
        try go_wp2
        replace HO_3 := Aside0.mk (Kd.S_drew HO_3.out)
        replace HO_8 := Aside0.mk (Kd.R_drew HO_8.out)
        replace HO_9 := Aside0.mk (Kd.R_drew HO_9.out)
        replace HO_10 := Aside0.mk (Kd.R_drew HO_10.out)
        replace HB := Aside0.mk (below_drew1 HB.out)
        have p444 : 0 ≤ (x13_3 : Int) := of_decide_eq_true (by (with_reducible assumption))
        have q444 : x13_3 < (t418.length : Int) := of_decide_eq_true (by (with_reducible assumption))
        obtain ⟨ad444, A444_2, c444_2, e444, hx444_0, hx444_1, hx444_2, hl444_2, hi444_2⟩ := at_T26 (Kd.S_reads' HO_3.out).2.2 x13_3 p444 q444
        cases e444
        obtain ⟨ce444, hce444, hMe444, hcc444⟩ := Kd.S_get HO_3.out z26 x13_3 p444 (by exact q444)
        obtain ⟨ve444_2, rfl, ge444_2⟩ := k26_openM hMe444
        have hv444_2 := hcc444 2 _ rfl
        rw [add_field _ _ 2 (by omega)] at hv444_2
        replace hv444_2 := Option.some.inj (hv444_2.symm.trans hx444_2)
        rw [hv444_2] at ge444_2
        have HL444_2 := Aside0.mk (show Kd.R (Kd.int .u8) 5 _ _ _ _ ((rd_T26 t418 x13_3).f2) from ge444_2)
        clear hv444_2 ge444_2
        clear hcc444 hce444
        have HR444_2 := Aside0.mk hi444_2
        have HC444_2 := Aside0.mk hl444_2
        clear hi444_2 hl444_2
        replace p444 := eq_true p444
        replace q444 := eq_true q444
        have p445 : 0 ≤ (x12_2 : Int) := of_decide_eq_true (by (with_reducible assumption))
        have q445 : x12_2 < (t427.length : Int) := of_decide_eq_true (by (with_reducible assumption))
        obtain ⟨ad445, e445, hx445_0, hx445_1⟩ := at_T67 (Kd.R_reads' HO_8.out).2.2 x12_2 p445 q445
        obtain rfl : ad439 = ad445 := (by injection e445)
        replace p445 := eq_true p445
        replace q445 := eq_true q445
        refine start_ (n := 11) (S := fun w' => w'.cell? (ad444.add ((x13_3).toNat * 3)) = some (.int .i64 ((rd_T26 t418 x13_3).f0)) ∧ w'.cell? ⟨(ad444.add ((x13_3).toNat * 3)).block, (ad444.add ((x13_3).toNat * 3)).off + 1, none⟩ = some (.int .i64 ((rd_T26 t418 x13_3).f1)) ∧ w'.cell? ⟨(ad444.add ((x13_3).toNat * 3)).block, (ad444.add ((x13_3).toNat * 3)).off + 2, none⟩ = some (.slice A444_2 ((rd_T26 t418 x13_3).f2).length c444_2) ∧ w'.cell? (ad439.add ((x12_2).toNat * 2)) = some (.int .i64 ((rd_T67 t427 x12_2).f0)) ∧ w'.cell? ⟨(ad439.add ((x12_2).toNat * 2)).block, (ad439.add ((x12_2).toNat * 2)).off + 1, none⟩ = some (.int .i64 ((rd_T67 t427 x12_2).f1))) (ds := []) #[false, false, false, false, false, false, false, false, false, false, false] (by kernel_rfl) rfl rfl ⟨hx444_0, hx444_1, hx444_2, hx445_0, hx445_1⟩ (fun hHeld => ?_); refine with_tabW laws_FnEvicted.tab23 laws_FnEvicted.bits23 (fun HT_ HW_ => ?_)
        generalize wr.drew = w74 at HO_3 HO_8 HO_9 HO_10 HB HL444_2 HR444_2 hx444_0 hx444_1 hx444_2 hx445_0 hx445_1 hHeld ⊢
        refine pure_ (i := 0) (N := some 112) (v := ?_) (a' := ?_) #[true, false, false, false, false, false, false, false, false, false, false] rfl rfl (any_of HT_.out (by kernel_rfl)) (fun _ _ _ h => h) (Or.inl ⟨by rfl, ?_⟩) ?_ ?_
        rotate_left
        ·
         intro w'
         go_simp
         with_reducible rfl
        rotate_left
        ·
         simp only [Act.put, List.setIfInBounds_toArray, List.set_cons_zero, List.set_cons_succ, i64_w, i32_w]
         rfl
        refine pure_ (i := 1) (N := some 113) (v := ?_) (a' := ?_) #[true, true, false, false, false, false, false, false, false, false, false] rfl rfl (any_of HT_.out (by kernel_rfl)) (fun _ _ _ h => h) (Or.inl ⟨by rfl, ?_⟩) ?_ ?_
        rotate_left
        ·
         intro w'
         go_simp
         with_reducible rfl
        rotate_left
        ·
         simp only [Act.put, List.setIfInBounds_toArray, List.set_cons_zero, List.set_cons_succ, i64_w, i32_w]
         rfl
        refine pure_ (i := 2) (N := some 114) (v := ?_) (a' := ?_) #[true, true, true, false, false, false, false, false, false, false, false] rfl rfl (any_of HT_.out (by kernel_rfl)) (fun _ _ _ h => h) (Or.inl ⟨by rfl, ?_⟩) ?_ ?_
        rotate_left
        ·
         intro w'
         go_simp
         with_reducible rfl
        rotate_left
        ·
         simp only [Act.put, List.setIfInBounds_toArray, List.set_cons_zero, List.set_cons_succ, i64_w, i32_w]
         rfl
        refine pure_ (i := 3) (N := some 115) (v := ?_) (a' := ?_) #[true, true, true, true, false, false, false, false, false, false, false] rfl rfl (any_of HT_.out (by kernel_rfl)) (fun _ _ _ h => h) (Or.inl ⟨by rfl, ?_⟩) ?_ ?_
        rotate_left
        ·
         intro w'
         go_simp
         with_reducible rfl
        rotate_left
        ·
         simp only [Act.put, List.setIfInBounds_toArray, List.set_cons_zero, List.set_cons_succ, i64_w, i32_w]
         rfl
        refine pure_ (i := 5) (N := some 117) (v := ?_) (a' := ?_) #[true, true, true, true, false, true, false, false, false, false, false] rfl rfl (any_of HT_.out (by kernel_rfl)) (fun _ _ _ h => h) (Or.inl ⟨by rfl, ?_⟩) ?_ ?_
        rotate_left
        ·
         intro w'
         go_simp
         with_reducible rfl
        rotate_left
        ·
         simp only [Act.put, List.setIfInBounds_toArray, List.set_cons_zero, List.set_cons_succ, i64_w, i32_w]
         rfl
        refine pure_ (i := 6) (N := some 118) (v := ?_) (a' := ?_) #[true, true, true, true, false, true, true, false, false, false, false] rfl rfl (any_of HT_.out (by kernel_rfl)) (fun _ _ _ h => h) (Or.inl ⟨by rfl, ?_⟩) ?_ ?_
        rotate_left
        ·
         intro w'
         go_simp
         with_reducible rfl
        rotate_left
        ·
         simp only [Act.put, List.setIfInBounds_toArray, List.set_cons_zero, List.set_cons_succ, i64_w, i32_w]
         rfl
        refine pure_ (i := 7) (N := some 119) (v := ?_) (a' := ?_) #[true, true, true, true, false, true, true, true, false, false, false] rfl rfl (any_of HT_.out (by kernel_rfl)) (fun _ _ _ h => h) (Or.inl ⟨by rfl, ?_⟩) ?_ ?_
        rotate_left
        ·
         intro w'
         go_simp
         with_reducible rfl
        rotate_left
        ·
         simp only [Act.put, List.setIfInBounds_toArray, List.set_cons_zero, List.set_cons_succ, i64_w, i32_w]
         rfl
        refine pure_ (i := 8) (N := some 120) (v := ?_) (a' := ?_) #[true, true, true, true, false, true, true, true, true, false, false] rfl rfl (any_of HT_.out (by kernel_rfl)) (fun _ _ _ h => h) (Or.inl ⟨by rfl, ?_⟩) ?_ ?_
        rotate_left
        ·
         intro w'
         go_simp
         with_reducible rfl
        rotate_left
        ·
         simp only [Act.put, List.setIfInBounds_toArray, List.set_cons_zero, List.set_cons_succ, i64_w, i32_w]
         rfl
        refine take_ (i := 4) (N := some 116) (v := ?_) (a' := ?_) #[true, true, true, true, true, true, true, true, true, false, false] rfl rfl (take_ofW HT_.out HW_.out (by kernel_rfl)) (fun _ _ _ h => h) (Or.inl ⟨by rfl, ?_⟩) hHeld ?_ ?_
        rotate_left
        ·
         rintro w' ⟨s0, s1, s2, s3, s4⟩
         go_simp
         with_reducible rfl
        rotate_left
        ·
         simp only [Act.put, List.setIfInBounds_toArray, List.set_cons_zero, List.set_cons_succ, i64_w, i32_w]
         rfl
        refine take_ (i := 9) (N := some 121) (v := ?_) (a' := ?_) #[true, true, true, true, true, true, true, true, true, true, false] rfl rfl (take_ofW HT_.out HW_.out (by kernel_rfl)) (fun _ _ _ h => h) (Or.inl ⟨by rfl, ?_⟩) hHeld ?_ ?_
        rotate_left
        ·
         rintro w' ⟨s0, s1, s2, s3, s4⟩
         go_simp
         with_reducible rfl
        rotate_left
        ·
         simp only [Act.put, List.setIfInBounds_toArray, List.set_cons_zero, List.set_cons_succ, i64_w, i32_w]
         rfl
        refine pure_ (i := 10) (N := some 122) (v := ?_) (a' := ?_) #[true, true, true, true, true, true, true, true, true, true, true] rfl rfl (any_of HT_.out (by kernel_rfl)) (fun _ _ _ h => h) (Or.inl ⟨by rfl, ?_⟩) ?_ ?_
        rotate_left
        ·
         intro w'
         go_simp
         with_reducible rfl
        rotate_left
        ·
         simp only [Act.put, List.setIfInBounds_toArray, List.set_cons_zero, List.set_cons_succ, i64_w, i32_w]
         rfl
        refine done_ (done_of HT_.out (by kernel_rfl)) ?_
        try go_wp2
        (try simp only [← hl9_3])
        go_roundg k3
        case measure => have := HK1.out; have := HK2.out; have := HK3.out; omega
        case rel => exact ⟨(x10_3), (wrap64 (x13_3 + 1)), (by rfl), H', ⟨by have := HK1.out; have := HK2.out; have := HK3.out; omega⟩, ⟨by (try simp only [hl9_3]); (with_reducible repeat (first | apply Kd.S_alloc | apply Kd.S_drewN | apply Kd.S_drew)); exact HO_3.out⟩, ⟨by (try simp only [hl9_3]); (with_reducible repeat (first | apply Kd.R_alloc | apply Kd.R_drewN | apply Kd.R_drew)); exact HO_8.out⟩, ⟨by (try simp only [hl9_3]); (with_reducible repeat (first | apply Kd.R_alloc | apply Kd.R_drewN | apply Kd.R_drew)); exact HO_9.out⟩, ⟨by (try simp only [hl9_3]); (with_reducible repeat (first | apply Kd.R_alloc | apply Kd.R_drewN | apply Kd.R_drew)); exact HO_10.out⟩, ⟨by repeat ((with_reducible exact HB.out))⟩⟩
       rw [if_pos c57] at H
       have c57b0 : (((rd_T26 t418 x13_3).f0) == ((rd_T67 t427 x12_2).f1)) = true := beq_iff_eq.mpr c57
       have c57b1 : (((rd_T26 t418 x13_3).f0) != ((rd_T67 t427 x12_2).f1)) = false := bne_eq_false_iff_eq.mpr c57
       clear c57
       by_cases c58 : x13_3 < (x10_3.length : Int)
       rotate_left
       ·
        rw [if_neg c58] at H
        exact absurd H (by simp)
       rw [if_pos c58] at H
       have c58b0 : decide (x13_3 < (x10_3.length : Int)) = true := decide_eq_true c58
       clear c58
       by_cases c59 : (rd x10_3 x13_3) ≥ 0
       ·
        rw [if_pos c59] at H
        have c59b0 : decide (0 ≤ (rd x10_3 x13_3)) = true := decide_eq_true c59
        clear c59
        exact absurd ((Option.some.inj H).trans HTRUE_.out) (by decide)
       rw [if_neg c59] at H
       have c59b0 : decide (0 ≤ (rd x10_3 x13_3)) = false := decide_eq_false c59
       clear c59
       replace H := Option.bind_eq_some_iff.mp H
       obtain ⟨t447, A600, H⟩ := H
       replace H : (if 0 ≤ ((rd_T67 t427 x12_2).f0) then (if ((rd_T67 t427 x12_2).f0) < (t447.length : Int) then ((spec_OnPath.f k3 t419 (rd t447 ((rd_T67 t427 x12_2).f0)) ((rd_T26 t418 x13_3).f1)).bind fun t453 => (if t453 = true then (laws_FnEvicted.l2 k3 t418 t419 t420 t421 t427 y443 (x10_3.set (x13_3 : Int).toNat ((rd_T67 t427 x12_2).f0)) x12_2 (wrap64 (x13_3 + 1))) else (some false))) else (none)) else (none)) = some r := H
       have A60 := Aside0.mk A600
       clear A600
       by_cases c61 : 0 ≤ ((rd_T67 t427 x12_2).f0)
       rotate_left
       ·
        rw [if_neg c61] at H
        exact absurd H (by simp)
       rw [if_pos c61] at H
       have c61b0 : decide (0 ≤ ((rd_T67 t427 x12_2).f0)) = true := decide_eq_true c61
       clear c61
       by_cases c62 : ((rd_T67 t427 x12_2).f0) < (t447.length : Int)
       rotate_left
       ·
        rw [if_neg c62] at H
        exact absurd H (by simp)
       rw [if_pos c62] at H
       have c62b0 : decide (((rd_T67 t427 x12_2).f0) < (t447.length : Int)) = true := decide_eq_true c62
       clear c62
       replace H := Option.bind_eq_some_iff.mp H
       obtain ⟨t453, A630, H⟩ := H
       replace H : (if t453 = true then (laws_FnEvicted.l2 k3 t418 t419 t420 t421 t427 y443 (x10_3.set (x13_3 : Int).toNat ((rd_T67 t427 x12_2).f0)) x12_2 (wrap64 (x13_3 + 1))) else (some false)) = some r := H
       have A63 := Aside0.mk A630
       clear A630
       by_cases c64 : t453 = true
       rotate_left
       ·
        replace c64 := Bool.eq_false_iff.mpr c64
        subst c64
        have H1 : (some false) = some r := by rw [if_neg (show ¬ (false = true) by decide)] at H; exact H
        clear H
        have H := H1
        clear H1
        exact absurd ((Option.some.inj H).trans HTRUE_.out) (by decide)
       subst c64
       have H1 : (laws_FnEvicted.l2 k3 t418 t419 t420 t421 t427 y443 (x10_3.set (x13_3 : Int).toNat ((rd_T67 t427 x12_2).f0)) x12_2 (wrap64 (x13_3 + 1))) = some r := by rw [if_pos rfl] at H; exact H
       clear H
       have H := H1
       clear H1
       obtain ⟨y455, hy455⟩ : ∃ y_ : List Int, y_ = (x10_3.set (x13_3 : Int).toNat ((rd_T67 t427 x12_2).f0)) := ⟨_, rfl⟩
       replace H : (laws_FnEvicted.l2 k3 t418 t419 t420 t421 t427 y443 y455 x12_2 (wrap64 (x13_3 + 1))) = some r := by (rw [hy455]; with_reducible exact H)
       have Ny455 := Aside0.mk hy455
       clear hy455
       have H' := Aside0.mk H
       clear H
       try go_wp2
       replace HO_3 := Aside0.mk (Kd.S_drew HO_3.out)
       replace HO_8 := Aside0.mk (Kd.R_drew HO_8.out)
       replace HO_9 := Aside0.mk (Kd.R_drew HO_9.out)
       replace HO_10 := Aside0.mk (Kd.R_drew HO_10.out)
       replace HB := Aside0.mk (below_drew1 HB.out)
       have p444 : 0 ≤ (x13_3 : Int) := of_decide_eq_true (by (with_reducible assumption))
       have q444 : x13_3 < (t418.length : Int) := of_decide_eq_true (by (with_reducible assumption))
       obtain ⟨ad444, A444_2, c444_2, e444, hx444_0, hx444_1, hx444_2, hl444_2, hi444_2⟩ := at_T26 (Kd.S_reads' HO_3.out).2.2 x13_3 p444 q444
       cases e444
       obtain ⟨ce444, hce444, hMe444, hcc444⟩ := Kd.S_get HO_3.out z26 x13_3 p444 (by exact q444)
       obtain ⟨ve444_2, rfl, ge444_2⟩ := k26_openM hMe444
       have hv444_2 := hcc444 2 _ rfl
       rw [add_field _ _ 2 (by omega)] at hv444_2
       replace hv444_2 := Option.some.inj (hv444_2.symm.trans hx444_2)
       rw [hv444_2] at ge444_2
       have HL444_2 := Aside0.mk (show Kd.R (Kd.int .u8) 5 _ _ _ _ ((rd_T26 t418 x13_3).f2) from ge444_2)
       clear hv444_2 ge444_2
       clear hcc444 hce444
       have HR444_2 := Aside0.mk hi444_2
       have HC444_2 := Aside0.mk hl444_2
       clear hi444_2 hl444_2
       replace p444 := eq_true p444
       replace q444 := eq_true q444
       have p445 : 0 ≤ (x12_2 : Int) := of_decide_eq_true (by (with_reducible assumption))
       have q445 : x12_2 < (t427.length : Int) := of_decide_eq_true (by (with_reducible assumption))
       obtain ⟨ad445, e445, hx445_0, hx445_1⟩ := at_T67 (Kd.R_reads' HO_8.out).2.2 x12_2 p445 q445
       obtain rfl : ad439 = ad445 := (by injection e445)
       replace p445 := eq_true p445
       replace q445 := eq_true q445
       refine start_ (n := 11) (S := fun w' => w'.cell? (ad444.add ((x13_3).toNat * 3)) = some (.int .i64 ((rd_T26 t418 x13_3).f0)) ∧ w'.cell? ⟨(ad444.add ((x13_3).toNat * 3)).block, (ad444.add ((x13_3).toNat * 3)).off + 1, none⟩ = some (.int .i64 ((rd_T26 t418 x13_3).f1)) ∧ w'.cell? ⟨(ad444.add ((x13_3).toNat * 3)).block, (ad444.add ((x13_3).toNat * 3)).off + 2, none⟩ = some (.slice A444_2 ((rd_T26 t418 x13_3).f2).length c444_2) ∧ w'.cell? (ad439.add ((x12_2).toNat * 2)) = some (.int .i64 ((rd_T67 t427 x12_2).f0)) ∧ w'.cell? ⟨(ad439.add ((x12_2).toNat * 2)).block, (ad439.add ((x12_2).toNat * 2)).off + 1, none⟩ = some (.int .i64 ((rd_T67 t427 x12_2).f1))) (ds := []) #[false, false, false, false, false, false, false, false, false, false, false] (by kernel_rfl) rfl rfl ⟨hx444_0, hx444_1, hx444_2, hx445_0, hx445_1⟩ (fun hHeld => ?_); refine with_tabW laws_FnEvicted.tab23 laws_FnEvicted.bits23 (fun HT_ HW_ => ?_)
       generalize wr.drew = w66 at HO_3 HO_8 HO_9 HO_10 HB HL444_2 HR444_2 hx444_0 hx444_1 hx444_2 hx445_0 hx445_1 hHeld ⊢
       refine pure_ (i := 0) (N := some 112) (v := ?_) (a' := ?_) #[true, false, false, false, false, false, false, false, false, false, false] rfl rfl (any_of HT_.out (by kernel_rfl)) (fun _ _ _ h => h) (Or.inl ⟨by rfl, ?_⟩) ?_ ?_
       rotate_left
       ·
        intro w'
        go_simp
        with_reducible rfl
       rotate_left
       ·
        simp only [Act.put, List.setIfInBounds_toArray, List.set_cons_zero, List.set_cons_succ, i64_w, i32_w]
        rfl
       refine pure_ (i := 1) (N := some 113) (v := ?_) (a' := ?_) #[true, true, false, false, false, false, false, false, false, false, false] rfl rfl (any_of HT_.out (by kernel_rfl)) (fun _ _ _ h => h) (Or.inl ⟨by rfl, ?_⟩) ?_ ?_
       rotate_left
       ·
        intro w'
        go_simp
        with_reducible rfl
       rotate_left
       ·
        simp only [Act.put, List.setIfInBounds_toArray, List.set_cons_zero, List.set_cons_succ, i64_w, i32_w]
        rfl
       refine pure_ (i := 2) (N := some 114) (v := ?_) (a' := ?_) #[true, true, true, false, false, false, false, false, false, false, false] rfl rfl (any_of HT_.out (by kernel_rfl)) (fun _ _ _ h => h) (Or.inl ⟨by rfl, ?_⟩) ?_ ?_
       rotate_left
       ·
        intro w'
        go_simp
        with_reducible rfl
       rotate_left
       ·
        simp only [Act.put, List.setIfInBounds_toArray, List.set_cons_zero, List.set_cons_succ, i64_w, i32_w]
        rfl
       refine pure_ (i := 3) (N := some 115) (v := ?_) (a' := ?_) #[true, true, true, true, false, false, false, false, false, false, false] rfl rfl (any_of HT_.out (by kernel_rfl)) (fun _ _ _ h => h) (Or.inl ⟨by rfl, ?_⟩) ?_ ?_
       rotate_left
       ·
        intro w'
        go_simp
        with_reducible rfl
       rotate_left
       ·
        simp only [Act.put, List.setIfInBounds_toArray, List.set_cons_zero, List.set_cons_succ, i64_w, i32_w]
        rfl
       refine pure_ (i := 5) (N := some 117) (v := ?_) (a' := ?_) #[true, true, true, true, false, true, false, false, false, false, false] rfl rfl (any_of HT_.out (by kernel_rfl)) (fun _ _ _ h => h) (Or.inl ⟨by rfl, ?_⟩) ?_ ?_
       rotate_left
       ·
        intro w'
        go_simp
        with_reducible rfl
       rotate_left
       ·
        simp only [Act.put, List.setIfInBounds_toArray, List.set_cons_zero, List.set_cons_succ, i64_w, i32_w]
        rfl
       refine pure_ (i := 6) (N := some 118) (v := ?_) (a' := ?_) #[true, true, true, true, false, true, true, false, false, false, false] rfl rfl (any_of HT_.out (by kernel_rfl)) (fun _ _ _ h => h) (Or.inl ⟨by rfl, ?_⟩) ?_ ?_
       rotate_left
       ·
        intro w'
        go_simp
        with_reducible rfl
       rotate_left
       ·
        simp only [Act.put, List.setIfInBounds_toArray, List.set_cons_zero, List.set_cons_succ, i64_w, i32_w]
        rfl
       refine pure_ (i := 7) (N := some 119) (v := ?_) (a' := ?_) #[true, true, true, true, false, true, true, true, false, false, false] rfl rfl (any_of HT_.out (by kernel_rfl)) (fun _ _ _ h => h) (Or.inl ⟨by rfl, ?_⟩) ?_ ?_
       rotate_left
       ·
        intro w'
        go_simp
        with_reducible rfl
       rotate_left
       ·
        simp only [Act.put, List.setIfInBounds_toArray, List.set_cons_zero, List.set_cons_succ, i64_w, i32_w]
        rfl
       refine pure_ (i := 8) (N := some 120) (v := ?_) (a' := ?_) #[true, true, true, true, false, true, true, true, true, false, false] rfl rfl (any_of HT_.out (by kernel_rfl)) (fun _ _ _ h => h) (Or.inl ⟨by rfl, ?_⟩) ?_ ?_
       rotate_left
       ·
        intro w'
        go_simp
        with_reducible rfl
       rotate_left
       ·
        simp only [Act.put, List.setIfInBounds_toArray, List.set_cons_zero, List.set_cons_succ, i64_w, i32_w]
        rfl
       refine take_ (i := 4) (N := some 116) (v := ?_) (a' := ?_) #[true, true, true, true, true, true, true, true, true, false, false] rfl rfl (take_ofW HT_.out HW_.out (by kernel_rfl)) (fun _ _ _ h => h) (Or.inl ⟨by rfl, ?_⟩) hHeld ?_ ?_
       rotate_left
       ·
        rintro w' ⟨s0, s1, s2, s3, s4⟩
        go_simp
        with_reducible rfl
       rotate_left
       ·
        simp only [Act.put, List.setIfInBounds_toArray, List.set_cons_zero, List.set_cons_succ, i64_w, i32_w]
        rfl
       refine take_ (i := 9) (N := some 121) (v := ?_) (a' := ?_) #[true, true, true, true, true, true, true, true, true, true, false] rfl rfl (take_ofW HT_.out HW_.out (by kernel_rfl)) (fun _ _ _ h => h) (Or.inl ⟨by rfl, ?_⟩) hHeld ?_ ?_
       rotate_left
       ·
        rintro w' ⟨s0, s1, s2, s3, s4⟩
        go_simp
        with_reducible rfl
       rotate_left
       ·
        simp only [Act.put, List.setIfInBounds_toArray, List.set_cons_zero, List.set_cons_succ, i64_w, i32_w]
        rfl
       refine pure_ (i := 10) (N := some 122) (v := ?_) (a' := ?_) #[true, true, true, true, true, true, true, true, true, true, true] rfl rfl (any_of HT_.out (by kernel_rfl)) (fun _ _ _ h => h) (Or.inl ⟨by rfl, ?_⟩) ?_ ?_
       rotate_left
       ·
        intro w'
        go_simp
        with_reducible rfl
       rotate_left
       ·
        simp only [Act.put, List.setIfInBounds_toArray, List.set_cons_zero, List.set_cons_succ, i64_w, i32_w]
        rfl
       refine done_ (done_of HT_.out (by kernel_rfl)) ?_
       try go_wp2
       replace HO_3 := Aside0.mk (Kd.S_drew HO_3.out)
       replace HO_8 := Aside0.mk (Kd.R_drew HO_8.out)
       replace HO_9 := Aside0.mk (Kd.R_drew HO_9.out)
       replace HO_10 := Aside0.mk (Kd.R_drew HO_10.out)
       replace HL444_2 := Aside0.mk (Kd.R_drew HL444_2.out)
       replace HR444_2 := Aside0.mk (Kd.C_drew HR444_2.out)
       replace HB := Aside0.mk (below_drew1 HB.out)
       obtain ⟨Ao68, co68, eo68⟩ := Kd.R_slice HO_10.out
       (subst eo68)
       have p446 : 0 ≤ (x13_3 : Int) := of_decide_eq_true (by (with_reducible assumption))
       have q446 : x13_3 < (x10_3.length : Int) := of_decide_eq_true (by (with_reducible assumption))
       obtain ⟨ad446, e446, hx446_0⟩ := Kd.at_int (Kd.R_reads' HO_10.out).2.2 x13_3 p446 q446
       cases e446
       replace p446 := eq_true p446
       replace q446 := eq_true q446
       have p450 : 0 ≤ (x12_2 : Int) := of_decide_eq_true (by (with_reducible assumption))
       have q450 : x12_2 < (t427.length : Int) := of_decide_eq_true (by (with_reducible assumption))
       obtain ⟨ad450, e450, hx450_0, hx450_1⟩ := at_T67 (Kd.R_reads' HO_8.out).2.2 x12_2 p450 q450
       obtain rfl : ad439 = ad450 := (by injection e450)
       replace p450 := eq_true p450
       replace q450 := eq_true q450
       have p452 : 0 ≤ (x13_3 : Int) := of_decide_eq_true (by (with_reducible assumption))
       have q452 : x13_3 < (t418.length : Int) := of_decide_eq_true (by (with_reducible assumption))
       obtain ⟨ad452, A452_2, c452_2, e452, hx452_0, hx452_1, hx452_2, hl452_2, hi452_2⟩ := at_T26 (Kd.S_reads' HO_3.out).2.2 x13_3 p452 q452
       obtain rfl : ad444 = ad452 := (by injection e452)
       obtain ⟨ce452, hce452, hMe452, hcc452⟩ := Kd.S_get HO_3.out z26 x13_3 p452 (by exact q452)
       obtain ⟨ve452_2, rfl, ge452_2⟩ := k26_openM hMe452
       have hv452_2 := hcc452 2 _ rfl
       rw [add_field _ _ 2 (by omega)] at hv452_2
       replace hv452_2 := Option.some.inj (hv452_2.symm.trans hx452_2)
       rw [hv452_2] at ge452_2
       have HL452_2 := Aside0.mk (show Kd.R (Kd.int .u8) 5 _ _ _ _ ((rd_T26 t418 x13_3).f2) from ge452_2)
       clear hv452_2 ge452_2
       clear hcc452 hce452
       have HR452_2 := Aside0.mk hi452_2
       have HC452_2 := Aside0.mk hl452_2
       clear hi452_2 hl452_2
       replace p452 := eq_true p452
       replace q452 := eq_true q452
       refine start_ (n := 25) (S := fun w' => w'.cell? (ad446.add (x13_3).toNat) = some (.int .i64 (rd x10_3 x13_3)) ∧ w'.cell? (ad439.add ((x12_2).toNat * 2)) = some (.int .i64 ((rd_T67 t427 x12_2).f0)) ∧ w'.cell? ⟨(ad439.add ((x12_2).toNat * 2)).block, (ad439.add ((x12_2).toNat * 2)).off + 1, none⟩ = some (.int .i64 ((rd_T67 t427 x12_2).f1)) ∧ w'.cell? (ad444.add ((x13_3).toNat * 3)) = some (.int .i64 ((rd_T26 t418 x13_3).f0)) ∧ w'.cell? ⟨(ad444.add ((x13_3).toNat * 3)).block, (ad444.add ((x13_3).toNat * 3)).off + 1, none⟩ = some (.int .i64 ((rd_T26 t418 x13_3).f1)) ∧ w'.cell? ⟨(ad444.add ((x13_3).toNat * 3)).block, (ad444.add ((x13_3).toNat * 3)).off + 2, none⟩ = some (.slice A452_2 ((rd_T26 t418 x13_3).f2).length c452_2)) (ds := []) #[false, false, false, false, false, false, false, false, false, false, false, false, false, false, false, false, false, false, false, false, false, false, false, false, false] (by kernel_rfl) rfl rfl ⟨hx446_0, hx450_0, hx450_1, hx452_0, hx452_1, hx452_2⟩ (fun hHeld => ?_); refine with_tabW laws_FnEvicted.tab24 laws_FnEvicted.bits24 (fun HT_ HW_ => ?_)
       generalize w66.drew = w67 at HO_3 HO_8 HO_9 HO_10 HL444_2 HR444_2 HB HL452_2 HR452_2 hx446_0 hx450_0 hx450_1 hx452_0 hx452_1 hx452_2 hHeld ⊢
       refine pure_ (i := 0) (N := some 123) (v := ?_) (a' := ?_) #[true, false, false, false, false, false, false, false, false, false, false, false, false, false, false, false, false, false, false, false, false, false, false, false, false] rfl rfl (any_of HT_.out (by kernel_rfl)) (fun _ _ _ h => h) (Or.inl ⟨by rfl, ?_⟩) ?_ ?_
       rotate_left
       ·
        intro w'
        go_simp
        with_reducible rfl
       rotate_left
       ·
        simp only [Act.put, List.setIfInBounds_toArray, List.set_cons_zero, List.set_cons_succ, i64_w, i32_w]
        rfl
       refine pure_ (i := 1) (N := some 124) (v := ?_) (a' := ?_) #[true, true, false, false, false, false, false, false, false, false, false, false, false, false, false, false, false, false, false, false, false, false, false, false, false] rfl rfl (any_of HT_.out (by kernel_rfl)) (fun _ _ _ h => h) (Or.inl ⟨by rfl, ?_⟩) ?_ ?_
       rotate_left
       ·
        intro w'
        go_simp
        with_reducible rfl
       rotate_left
       ·
        simp only [Act.put, List.setIfInBounds_toArray, List.set_cons_zero, List.set_cons_succ, i64_w, i32_w]
        rfl
       refine pure_ (i := 2) (N := some 125) (v := ?_) (a' := ?_) #[true, true, true, false, false, false, false, false, false, false, false, false, false, false, false, false, false, false, false, false, false, false, false, false, false] rfl rfl (any_of HT_.out (by kernel_rfl)) (fun _ _ _ h => h) (Or.inl ⟨by rfl, ?_⟩) ?_ ?_
       rotate_left
       ·
        intro w'
        go_simp
        with_reducible rfl
       rotate_left
       ·
        simp only [Act.put, List.setIfInBounds_toArray, List.set_cons_zero, List.set_cons_succ, i64_w, i32_w]
        rfl
       refine take_ (i := 3) (N := some 126) (v := ?_) (a' := ?_) #[true, true, true, true, false, false, false, false, false, false, false, false, false, false, false, false, false, false, false, false, false, false, false, false, false] rfl rfl (take_ofW HT_.out HW_.out (by kernel_rfl)) (fun _ _ _ h => h) (Or.inl ⟨by rfl, ?_⟩) hHeld ?_ ?_
       rotate_left
       ·
        rintro w' ⟨s0, s1, s2, s3, s4, s5⟩
        go_simp
        with_reducible rfl
       rotate_left
       ·
        simp only [Act.put, List.setIfInBounds_toArray, List.set_cons_zero, List.set_cons_succ, i64_w, i32_w]
        rfl
       refine pure_ (i := 4) (N := some 127) (v := ?_) (a' := ?_) #[true, true, true, true, true, false, false, false, false, false, false, false, false, false, false, false, false, false, false, false, false, false, false, false, false] rfl rfl (any_of HT_.out (by kernel_rfl)) (fun _ _ _ h => h) (Or.inl ⟨by rfl, ?_⟩) ?_ ?_
       rotate_left
       ·
        intro w'
        go_simp
        with_reducible rfl
       rotate_left
       ·
        simp only [Act.put, List.setIfInBounds_toArray, List.set_cons_zero, List.set_cons_succ, i64_w, i32_w]
        rfl
       refine pure_ (i := 5) (N := some 128) (v := ?_) (a' := ?_) #[true, true, true, true, true, true, false, false, false, false, false, false, false, false, false, false, false, false, false, false, false, false, false, false, false] rfl rfl (any_of HT_.out (by kernel_rfl)) (fun _ _ _ h => h) (Or.inl ⟨by rfl, ?_⟩) ?_ ?_
       rotate_left
       ·
        intro w'
        go_simp
        with_reducible rfl
       rotate_left
       ·
        simp only [Act.put, List.setIfInBounds_toArray, List.set_cons_zero, List.set_cons_succ, i64_w, i32_w]
        rfl
       refine pure_ (i := 6) (N := some 129) (v := ?_) (a' := ?_) #[true, true, true, true, true, true, true, false, false, false, false, false, false, false, false, false, false, false, false, false, false, false, false, false, false] rfl rfl (any_of HT_.out (by kernel_rfl)) (fun _ _ _ h => h) (Or.inl ⟨by rfl, ?_⟩) ?_ ?_
       rotate_left
       ·
        intro w'
        go_simp
        with_reducible rfl
       rotate_left
       ·
        simp only [Act.put, List.setIfInBounds_toArray, List.set_cons_zero, List.set_cons_succ, i64_w, i32_w]
        rfl
       refine pure_ (i := 7) (N := some 130) (v := ?_) (a' := ?_) #[true, true, true, true, true, true, true, true, false, false, false, false, false, false, false, false, false, false, false, false, false, false, false, false, false] rfl rfl (any_of HT_.out (by kernel_rfl)) (fun _ _ _ h => h) (Or.inl ⟨by rfl, ?_⟩) ?_ ?_
       rotate_left
       ·
        intro w'
        go_simp
        with_reducible rfl
       rotate_left
       ·
        simp only [Act.put, List.setIfInBounds_toArray, List.set_cons_zero, List.set_cons_succ, i64_w, i32_w]
        rfl
       refine pure_ (i := 8) (N := some 131) (v := ?_) (a' := ?_) #[true, true, true, true, true, true, true, true, true, false, false, false, false, false, false, false, false, false, false, false, false, false, false, false, false] rfl rfl (any_of HT_.out (by kernel_rfl)) (fun _ _ _ h => h) (Or.inl ⟨by rfl, ?_⟩) ?_ ?_
       rotate_left
       ·
        intro w'
        go_simp
        with_reducible rfl
       rotate_left
       ·
        simp only [Act.put, List.setIfInBounds_toArray, List.set_cons_zero, List.set_cons_succ, i64_w, i32_w]
        rfl
       refine pure_ (i := 10) (N := some 133) (v := ?_) (a' := ?_) #[true, true, true, true, true, true, true, true, true, false, true, false, false, false, false, false, false, false, false, false, false, false, false, false, false] rfl rfl (any_of HT_.out (by kernel_rfl)) (fun _ _ _ h => h) (Or.inl ⟨by rfl, ?_⟩) ?_ ?_
       rotate_left
       ·
        intro w'
        go_simp
        with_reducible rfl
       rotate_left
       ·
        simp only [Act.put, List.setIfInBounds_toArray, List.set_cons_zero, List.set_cons_succ, i64_w, i32_w]
        rfl
       refine pure_ (i := 11) (N := some 134) (v := ?_) (a' := ?_) #[true, true, true, true, true, true, true, true, true, false, true, true, false, false, false, false, false, false, false, false, false, false, false, false, false] rfl rfl (any_of HT_.out (by kernel_rfl)) (fun _ _ _ h => h) (Or.inl ⟨by rfl, ?_⟩) ?_ ?_
       rotate_left
       ·
        intro w'
        go_simp
        with_reducible rfl
       rotate_left
       ·
        simp only [Act.put, List.setIfInBounds_toArray, List.set_cons_zero, List.set_cons_succ, i64_w, i32_w]
        rfl
       refine pure_ (i := 12) (N := some 135) (v := ?_) (a' := ?_) #[true, true, true, true, true, true, true, true, true, false, true, true, true, false, false, false, false, false, false, false, false, false, false, false, false] rfl rfl (any_of HT_.out (by kernel_rfl)) (fun _ _ _ h => h) (Or.inl ⟨by rfl, ?_⟩) ?_ ?_
       rotate_left
       ·
        intro w'
        go_simp
        with_reducible rfl
       rotate_left
       ·
        simp only [Act.put, List.setIfInBounds_toArray, List.set_cons_zero, List.set_cons_succ, i64_w, i32_w]
        rfl
       refine pure_ (i := 13) (N := some 136) (v := ?_) (a' := ?_) #[true, true, true, true, true, true, true, true, true, false, true, true, true, true, false, false, false, false, false, false, false, false, false, false, false] rfl rfl (any_of HT_.out (by kernel_rfl)) (fun _ _ _ h => h) (Or.inl ⟨by rfl, ?_⟩) ?_ ?_
       rotate_left
       ·
        intro w'
        go_simp
        with_reducible rfl
       rotate_left
       ·
        simp only [Act.put, List.setIfInBounds_toArray, List.set_cons_zero, List.set_cons_succ, i64_w, i32_w]
        rfl
       refine pure_ (i := 17) (N := some 140) (v := ?_) (a' := ?_) #[true, true, true, true, true, true, true, true, true, false, true, true, true, true, false, false, false, true, false, false, false, false, false, false, false] rfl rfl (any_of HT_.out (by kernel_rfl)) (fun _ _ _ h => h) (Or.inl ⟨by rfl, ?_⟩) ?_ ?_
       rotate_left
       ·
        intro w'
        go_simp
        with_reducible rfl
       rotate_left
       ·
        simp only [Act.put, List.setIfInBounds_toArray, List.set_cons_zero, List.set_cons_succ, i64_w, i32_w]
        rfl
       refine pure_ (i := 18) (N := some 141) (v := ?_) (a' := ?_) #[true, true, true, true, true, true, true, true, true, false, true, true, true, true, false, false, false, true, true, false, false, false, false, false, false] rfl rfl (any_of HT_.out (by kernel_rfl)) (fun _ _ _ h => h) (Or.inl ⟨by rfl, ?_⟩) ?_ ?_
       rotate_left
       ·
        intro w'
        go_simp
        with_reducible rfl
       rotate_left
       ·
        simp only [Act.put, List.setIfInBounds_toArray, List.set_cons_zero, List.set_cons_succ, i64_w, i32_w]
        rfl
       refine pure_ (i := 19) (N := some 142) (v := ?_) (a' := ?_) #[true, true, true, true, true, true, true, true, true, false, true, true, true, true, false, false, false, true, true, true, false, false, false, false, false] rfl rfl (any_of HT_.out (by kernel_rfl)) (fun _ _ _ h => h) (Or.inl ⟨by rfl, ?_⟩) ?_ ?_
       rotate_left
       ·
        intro w'
        go_simp
        with_reducible rfl
       rotate_left
       ·
        simp only [Act.put, List.setIfInBounds_toArray, List.set_cons_zero, List.set_cons_succ, i64_w, i32_w]
        rfl
       refine pure_ (i := 20) (N := some 143) (v := ?_) (a' := ?_) #[true, true, true, true, true, true, true, true, true, false, true, true, true, true, false, false, false, true, true, true, true, false, false, false, false] rfl rfl (any_of HT_.out (by kernel_rfl)) (fun _ _ _ h => h) (Or.inl ⟨by rfl, ?_⟩) ?_ ?_
       rotate_left
       ·
        intro w'
        go_simp
        with_reducible rfl
       rotate_left
       ·
        simp only [Act.put, List.setIfInBounds_toArray, List.set_cons_zero, List.set_cons_succ, i64_w, i32_w]
        rfl
       refine take_ (i := 14) (N := some 137) (v := ?_) (a' := ?_) #[true, true, true, true, true, true, true, true, true, false, true, true, true, true, true, false, false, true, true, true, true, false, false, false, false] rfl rfl (take_ofW HT_.out HW_.out (by kernel_rfl)) (fun _ _ _ h => h) (Or.inl ⟨by rfl, ?_⟩) hHeld ?_ ?_
       rotate_left
       ·
        rintro w' ⟨s0, s1, s2, s3, s4, s5⟩
        go_simp
        with_reducible rfl
       rotate_left
       ·
        simp only [Act.put, List.setIfInBounds_toArray, List.set_cons_zero, List.set_cons_succ, i64_w, i32_w]
        rfl
       refine take_ (i := 21) (N := some 144) (v := ?_) (a' := ?_) #[true, true, true, true, true, true, true, true, true, false, true, true, true, true, true, false, false, true, true, true, true, true, false, false, false] rfl rfl (take_ofW HT_.out HW_.out (by kernel_rfl)) (fun _ _ _ h => h) (Or.inl ⟨by rfl, ?_⟩) hHeld ?_ ?_
       rotate_left
       ·
        rintro w' ⟨s0, s1, s2, s3, s4, s5⟩
        go_simp
        with_reducible rfl
       rotate_left
       ·
        simp only [Act.put, List.setIfInBounds_toArray, List.set_cons_zero, List.set_cons_succ, i64_w, i32_w]
        rfl
       refine one_ (i := 9) (N := some 132) #[true, true, true, true, true, true, true, true, true, true, true, true, true, true, true, false, false, true, true, true, true, true, false, false, false] rfl rfl (one_of HT_.out (by kernel_rfl)) (by decide) (fun K hK => ?_)
       refine goes_ Try.func46 (by kernel_rfl) rfl #[.int .i64 t419, .int .i64 t421] (by rfl) rfl rfl (by (try simp only [List.map_toArray, List.map_cons, List.map_nil]); rfl) ?_
       with_reducible refine (spec_PathNodes.calls k3 t419 t421 t447 _ A60.out).mono ?_
       rintro e w69 ⟨v448, rfl, ho0, hb⟩
       have HS0_ := (hb.cell (World.block_lt_of_cell? _ _ (hHeld.1))).trans (hHeld.1)
       have HS1_ := (hb.cell (World.block_lt_of_cell? _ _ (hHeld.2.1))).trans (hHeld.2.1)
       have HS2_ := (hb.cell (World.block_lt_of_cell? _ _ (hHeld.2.2.1))).trans (hHeld.2.2.1)
       have HS3_ := (hb.cell (World.block_lt_of_cell? _ _ (hHeld.2.2.2.1))).trans (hHeld.2.2.2.1)
       have HS4_ := (hb.cell (World.block_lt_of_cell? _ _ (hHeld.2.2.2.2.1))).trans (hHeld.2.2.2.2.1)
       have HS5_ := (hb.cell (World.block_lt_of_cell? _ _ (hHeld.2.2.2.2.2))).trans (hHeld.2.2.2.2.2)
       refine ⟨_, rfl, ?_⟩
       have HO449 := Aside0.mk (Kd.R_lower (Kd.R_new' (Kd.R_new' ho0 (Kd.R_lt (by (with_reducible repeat (first | apply Kd.R_alloc | apply Kd.R_drewN | apply Kd.R_drew)); exact HO_9.out))) (Kd.R_lt (by (with_reducible repeat (first | apply Kd.R_alloc | apply Kd.R_drewN | apply Kd.R_drew)); exact HO_10.out))) (below_size (by repeat ((with_reducible exact HB.out)))))
       replace HO_3 := Aside0.mk (Kd.S_below (by (with_reducible repeat (first | apply Kd.S_alloc | apply Kd.S_drewN | apply Kd.S_drew)); exact HO_3.out) hb)
       replace HO_8 := Aside0.mk (Kd.R_below (by (with_reducible repeat (first | apply Kd.R_alloc | apply Kd.R_drewN | apply Kd.R_drew)); exact HO_8.out) hb)
       replace HO_9 := Aside0.mk (Kd.R_elder' (by (with_reducible repeat (first | apply Kd.R_alloc | apply Kd.R_drewN | apply Kd.R_drew)); exact HO_9.out) (Kd.R_base ho0) hb)
       replace HO_10 := Aside0.mk (Kd.R_elder' (by (with_reducible repeat (first | apply Kd.R_alloc | apply Kd.R_drewN | apply Kd.R_drew)); exact HO_10.out) (Kd.R_base ho0) hb)
       replace HL444_2 := Aside0.mk (Kd.R_below (by (with_reducible repeat (first | apply Kd.R_alloc | apply Kd.R_drewN | apply Kd.R_drew)); exact HL444_2.out) hb)
       replace HL452_2 := Aside0.mk (Kd.R_below (by (with_reducible repeat (first | apply Kd.R_alloc | apply Kd.R_drewN | apply Kd.R_drew)); exact HL452_2.out) hb)
       replace HR444_2 := Aside0.mk (Kd.C_below (by repeat ((with_reducible exact HR444_2.out))) hb)
       replace HR452_2 := Aside0.mk (Kd.C_below (by repeat ((with_reducible exact HR452_2.out))) hb)
       replace HB := Aside0.mk (below_step (by repeat ((with_reducible exact HB.out))) hb)
       (try clear hb)
       (try clear hb2)
       (try clear hk)
       (try clear hi)
       (try clear ho0)
       obtain ⟨Ao70, co70, eo70⟩ := Kd.R_slice HO449.out
       (subst eo70)
       have p451 : 0 ≤ (((rd_T67 t427 x12_2).f0) : Int) := of_decide_eq_true (by (with_reducible assumption))
       have q451 : ((rd_T67 t427 x12_2).f0) < (t447.length : Int) := of_decide_eq_true (by (with_reducible assumption))
       obtain ⟨ad451, e451, hx451_0⟩ := Kd.at_int (Kd.R_reads' HO449.out).2.2 ((rd_T67 t427 x12_2).f0) p451 q451
       cases e451
       replace p451 := eq_true p451
       replace q451 := eq_true q451
       refine hK.out _ _ ⟨HS0_, HS1_, HS2_, HS3_, HS4_, HS5_⟩ (fun hHeld => ?_)
       clear hK K
       refine norm_ (a' := ?_) ?_ ?_
       rotate_left
       ·
        show Act.put _ (some 132) _ = _
        simp only [Act.put, List.setIfInBounds_toArray, List.set_cons_zero, List.set_cons_succ, i64_w, i32_w]
        rfl
       refine pure_ (i := 15) (N := some 138) (v := ?_) (a' := ?_) #[true, true, true, true, true, true, true, true, true, true, true, true, true, true, true, true, false, true, true, true, true, true, false, false, false] rfl rfl (any_of HT_.out (by kernel_rfl)) (fun _ _ _ h => h) (Or.inl ⟨by rfl, ?_⟩) ?_ ?_
       rotate_left
       ·
        intro w'
        go_simp
        with_reducible rfl
       rotate_left
       ·
        simp only [Act.put, List.setIfInBounds_toArray, List.set_cons_zero, List.set_cons_succ, i64_w, i32_w]
        rfl
       refine one_ (i := 16) (N := some 139) #[true, true, true, true, true, true, true, true, true, true, true, true, true, true, true, true, true, true, true, true, true, true, false, false, false] rfl rfl (one_of HT_.out (by kernel_rfl)) (by decide) (fun K hK => ?_)
       refine value_ (w1 := w69) (v := .int .i64 (rd t447 ((rd_T67 t427 x12_2).f0))) (by rfl) rfl ?_ ?_
       ·
        go_simp
        try rfl
       refine hK.out _ _ hHeld (fun hHeld => ?_)
       clear hK K
       refine norm_ (a' := ?_) ?_ ?_
       rotate_left
       ·
        show Act.put _ (some 139) _ = _
        simp only [Act.put, List.setIfInBounds_toArray, List.set_cons_zero, List.set_cons_succ, i64_w, i32_w]
        rfl
       refine one_ (i := 22) (N := some 145) #[true, true, true, true, true, true, true, true, true, true, true, true, true, true, true, true, true, true, true, true, true, true, true, false, false] rfl rfl (one_of HT_.out (by kernel_rfl)) (by decide) (fun K hK => ?_)
       refine goes_ Try.func45 (by kernel_rfl) rfl #[.int .i64 t419, .int .i64 (rd t447 ((rd_T67 t427 x12_2).f0)), .int .i64 ((rd_T26 t418 x13_3).f1)] (by rfl) rfl rfl (by (try simp only [List.map_toArray, List.map_cons, List.map_nil]); rfl) ?_
       with_reducible refine (spec_OnPath.calls k3 t419 (rd t447 ((rd_T67 t427 x12_2).f0)) ((rd_T26 t418 x13_3).f1) true _ A63.out).mono ?_
       rintro e w71 ⟨rfl, hb⟩
       have HS0_ := (hb.cell (World.block_lt_of_cell? _ _ (hHeld.1))).trans (hHeld.1)
       have HS1_ := (hb.cell (World.block_lt_of_cell? _ _ (hHeld.2.1))).trans (hHeld.2.1)
       have HS2_ := (hb.cell (World.block_lt_of_cell? _ _ (hHeld.2.2.1))).trans (hHeld.2.2.1)
       have HS3_ := (hb.cell (World.block_lt_of_cell? _ _ (hHeld.2.2.2.1))).trans (hHeld.2.2.2.1)
       have HS4_ := (hb.cell (World.block_lt_of_cell? _ _ (hHeld.2.2.2.2.1))).trans (hHeld.2.2.2.2.1)
       have HS5_ := (hb.cell (World.block_lt_of_cell? _ _ (hHeld.2.2.2.2.2))).trans (hHeld.2.2.2.2.2)
       refine ⟨_, rfl, ?_⟩
       replace HO_3 := Aside0.mk (Kd.S_below (by (with_reducible repeat (first | apply Kd.S_alloc | apply Kd.S_drewN | apply Kd.S_drew)); exact HO_3.out) hb)
       replace HO_8 := Aside0.mk (Kd.R_below (by (with_reducible repeat (first | apply Kd.R_alloc | apply Kd.R_drewN | apply Kd.R_drew)); exact HO_8.out) hb)
       replace HO_9 := Aside0.mk (Kd.R_below (by (with_reducible repeat (first | apply Kd.R_alloc | apply Kd.R_drewN | apply Kd.R_drew)); exact HO_9.out) hb)
       replace HO_10 := Aside0.mk (Kd.R_below (by (with_reducible repeat (first | apply Kd.R_alloc | apply Kd.R_drewN | apply Kd.R_drew)); exact HO_10.out) hb)
       replace HL444_2 := Aside0.mk (Kd.R_below (by (with_reducible repeat (first | apply Kd.R_alloc | apply Kd.R_drewN | apply Kd.R_drew)); exact HL444_2.out) hb)
       replace HL452_2 := Aside0.mk (Kd.R_below (by (with_reducible repeat (first | apply Kd.R_alloc | apply Kd.R_drewN | apply Kd.R_drew)); exact HL452_2.out) hb)
       replace HO449 := Aside0.mk (Kd.R_below (by (with_reducible repeat (first | apply Kd.R_alloc | apply Kd.R_drewN | apply Kd.R_drew)); exact HO449.out) hb)
       replace HR444_2 := Aside0.mk (Kd.C_below (by repeat ((with_reducible exact HR444_2.out))) hb)
       replace HR452_2 := Aside0.mk (Kd.C_below (by repeat ((with_reducible exact HR452_2.out))) hb)
       replace HB := Aside0.mk (below_step (by repeat ((with_reducible exact HB.out))) hb)
       (try clear hb)
       (try clear hb2)
       (try clear hk)
       (try clear hi)
       refine hK.out _ _ ⟨HS0_, HS1_, HS2_, HS3_, HS4_, HS5_⟩ (fun hHeld => ?_)
       clear hK K
       refine norm_ (a' := ?_) ?_ ?_
       rotate_left
       ·
        show Act.put _ (some 145) _ = _
        simp only [Act.put, List.setIfInBounds_toArray, List.set_cons_zero, List.set_cons_succ, i64_w, i32_w]
        rfl
       refine pure_ (i := 23) (N := some 146) (v := ?_) (a' := ?_) #[true, true, true, true, true, true, true, true, true, true, true, true, true, true, true, true, true, true, true, true, true, true, true, true, false] rfl rfl (any_of HT_.out (by kernel_rfl)) (fun _ _ _ h => h) (Or.inl ⟨by rfl, ?_⟩) ?_ ?_
       rotate_left
       ·
        intro w'
        go_simp
        with_reducible rfl
       rotate_left
       ·
        simp only [Act.put, List.setIfInBounds_toArray, List.set_cons_zero, List.set_cons_succ, i64_w, i32_w]
        rfl
       refine pure_ (i := 24) (N := some 147) (v := ?_) (a' := ?_) #[true, true, true, true, true, true, true, true, true, true, true, true, true, true, true, true, true, true, true, true, true, true, true, true, true] rfl rfl (any_of HT_.out (by kernel_rfl)) (fun _ _ _ h => h) (Or.inl ⟨by rfl, ?_⟩) ?_ ?_
       rotate_left
       ·
        intro w'
        go_simp
        with_reducible rfl
       rotate_left
       ·
        simp only [Act.put, List.setIfInBounds_toArray, List.set_cons_zero, List.set_cons_succ, i64_w, i32_w]
        rfl
       refine done_ (done_of HT_.out (by kernel_rfl)) ?_
       have p454 : 0 ≤ (x12_2 : Int) := of_decide_eq_true (by (with_reducible assumption))
       have q454 : x12_2 < (t427.length : Int) := of_decide_eq_true (by (with_reducible assumption))
       obtain ⟨ad454, e454, hx454_0, hx454_1⟩ := at_T67 (Kd.R_reads' HO_8.out).2.2 x12_2 p454 q454
       obtain rfl : ad439 = ad454 := (by injection e454)
       replace p454 := eq_true p454
       replace q454 := eq_true q454
       have p65 : 0 ≤ (x13_3 : Int) := of_decide_eq_true (by (with_reducible assumption))
       have q65 : (x13_3 : Int) < ((x10_3.length : Int) : Int) := of_decide_eq_true (by (with_reducible assumption))
       obtain ⟨go65, co65, eo65, gb65, gl65, cl65, HG65⟩ := Kd.R_form HO_10.out (by omega)
       (cases eo65)
       have GB65 := Aside0.mk gb65
       have GG65 := Aside0.mk HG65
       clear gb65 gl65 HG65
       (simp only [add_plain] at hx446_0)
       obtain ⟨hx65_0, hf65_0⟩ := Kd.R_celln 0 HO_10.out (x13_3 : Int) p65 q65
       replace p65 := eq_true p65
       replace q65 := eq_true q65
       obtain ⟨hy72_, hz72_⟩ := Kd.R_celln 0 HO_10.out (x13_3 : Int) (of_decide_eq_true (by (with_reducible assumption))) (of_decide_eq_true (by (with_reducible assumption)))
       have HP72 := Kd.R_putg HO_10.out (x13_3 : Int) ((rd_T67 t427 x12_2).f0)
       try go_wp2_with (((with_reducible refine gate_store (t := 3) (p := 155) rfl ?_); refine store_event (t := 3) (p := 155) (v := ?vo_w73) (w1 := (w71.setCell ⟨go65, (x13_3 : Int).toNat, none⟩ (.int .i64 ((rd_T67 t427 x12_2).f0)))) ?hg ?ho ?hn ?hr ?_; (case ho => rfl); (case hg => rfl); (case hn => rfl); (case hr => (go_simp; done)); intro w73 hw; have hg : w71.grownBy w73 (some go65) := (by rw [hw]; exact HP72.2); have hp_ : Kd.R (Kd.int .i64) 3 w73 w.heap.size (fun k_ => some k_ ≠ (.slice (some ⟨go49, 0, none⟩) y443.length co50 : Value).ownBlock ∧ some k_ ≠ (.slice (some ad451) t447.length co70 : Value).ownBlock) (.slice (some ⟨go65, 0, none⟩) x10_3.length co68) y455 := (by rw [hw, Ny455.out]; exact HP72.1); clear HP72; have n0_ := Aside0.mk (Kd.S_over' (v := (.slice (some ⟨go65, 0, none⟩) x10_3.length co68)) (by (with_reducible repeat (first | apply Kd.S_alloc | apply Kd.S_drewN | apply Kd.S_drew)); exact HO_3.out) (Kd.R_typed HO_10.out) (by decide) hg); have n1_ := Aside0.mk (Kd.R_over' (v := (.slice (some ⟨go65, 0, none⟩) x10_3.length co68)) (by (with_reducible repeat (first | apply Kd.R_alloc | apply Kd.R_drewN | apply Kd.R_drew)); exact HO_8.out) (Kd.R_typed HO_10.out) (by decide) hg); have n2_ := Aside0.mk (Kd.R_after (v := (.slice (some ⟨go65, 0, none⟩) x10_3.length co68)) (v1 := (.slice (some ⟨go65, 0, none⟩) x10_3.length co68)) (ok := (fun k_ => some k_ ≠ (.slice (some ad451) t447.length co70 : Value).ownBlock)) (by (with_reducible repeat (first | apply Kd.R_alloc | apply Kd.R_drewN | apply Kd.R_drew)); exact Kd.R_mono HO_9.out (fun _ hk => by exact ⟨hk.2, hk.1⟩)) hg (.inl rfl)); have n3_ := Aside0.mk (hp_); have n4_ := Aside0.mk (Kd.R_over' (v := (.slice (some ⟨go65, 0, none⟩) x10_3.length co68)) (by (with_reducible repeat (first | apply Kd.R_alloc | apply Kd.R_drewN | apply Kd.R_drew)); exact HL444_2.out) (Kd.R_typed HO_10.out) (by decide) hg); have n5_ := Aside0.mk (Kd.R_over' (v := (.slice (some ⟨go65, 0, none⟩) x10_3.length co68)) (by (with_reducible repeat (first | apply Kd.R_alloc | apply Kd.R_drewN | apply Kd.R_drew)); exact HL452_2.out) (Kd.R_typed HO_10.out) (by decide) hg); have n6_ := Aside0.mk (Kd.R_after (v := (.slice (some ⟨go65, 0, none⟩) x10_3.length co68)) (v1 := (.slice (some ⟨go65, 0, none⟩) x10_3.length co68)) (ok := (fun k_ => some k_ ≠ (.slice (some ⟨go49, 0, none⟩) y443.length co50 : Value).ownBlock)) (by (with_reducible repeat (first | apply Kd.R_alloc | apply Kd.R_drewN | apply Kd.R_drew)); exact Kd.R_mono HO449.out (fun _ hk => by exact ⟨hk.1.2, hk.2⟩)) hg (.inl rfl)); have n7_ := Aside0.mk ((by rw [hw]; exact below_set (HB.out) GB65.out : Below w.heap.size w w73)); clear HO_3; clear HO_8; clear HO_9; clear HO_10; clear HL444_2; clear HL452_2; clear HO449; clear HB; have HO_3 := n0_; have HO_8 := n1_; have HO_9 := n2_; have HO_10 := n3_; have HL444_2 := n4_; have HL452_2 := n5_; have HO449 := n6_; have HB := n7_; clear n0_ n1_ n2_ n3_ n4_ n5_ n6_ n7_; clear hg hw hp_))
       (try simp only [← hl9_3])
       go_roundg k3
       case measure => have := HK1.out; have := HK2.out; have := HK3.out; omega
       case rel => exact ⟨(y455), (wrap64 (x13_3 + 1)), (by rfl), H', ⟨by have := HK1.out; have := HK2.out; have := HK3.out; omega⟩, ⟨by (try simp only [hl9_3]); (with_reducible repeat (first | apply Kd.S_alloc | apply Kd.S_drewN | apply Kd.S_drew)); exact HO_3.out⟩, ⟨by (try simp only [hl9_3]); (with_reducible repeat (first | apply Kd.R_alloc | apply Kd.R_drewN | apply Kd.R_drew)); exact HO_8.out⟩, ⟨by (try simp only [hl9_3]); (with_reducible repeat (first | apply Kd.R_alloc | apply Kd.R_drewN | apply Kd.R_drew)); exact Kd.R_mono HO_9.out (fun _ hk => by exact hk.2)⟩, ⟨by (try simp only [hl9_3]); (with_reducible repeat (first | apply Kd.R_alloc | apply Kd.R_drewN | apply Kd.R_drew)); exact Kd.R_mono HO_10.out (fun _ hk => by exact hk.1)⟩, ⟨by repeat ((with_reducible exact HB.out))⟩⟩

/-- THE ONE PURE STATEMENT of laws_FnEvicted: yours. -/
def laws_FnEvicted.Pure : Prop := ∀ (l0 : List Int), l0.length ≤ maxLen → l0.length * 1 ≤ 140737488351232 → (∀ x ∈ l0, (Lit.int .u8 x).wf = true) → ∃ k, laws_FnEvicted.f k l0 = some true
theorem laws_FnEvicted.walk (P : laws_FnEvicted.Pure) (a0 : Option Addr) (len0 cap0 : Nat) (z0 : List Int) (w : World) (w0 : (a0 = none ∧ len0 = 0 ∧ cap0 = 0 ∧ z0 = []) ∨ ∃ x, a0 = some x ∧ len0 ≤ cap0 ∧ cap0 ≤ maxLen ∧ z0.length = cap0 ∧ (∀ i, i < z0.length → w.cell? (x.add i) = some (.int .u8 (z0.getD i 0))) ∧ ∀ n ∈ z0, (Lit.int .u8 n).wf = true) (y0 : len0 * 1 ≤ 140737488351232) :
    Calls Try.prog 8 #[.slice a0 len0 cap0] w fun e w' => e = .returned (.bool true) ∧ Below w.heap.size w w' := by
 obtain ⟨l0, rfl, hr0, hm0, hw0, hc0⟩ := ReadsInt.ofRowC w0
 obtain ⟨k, h⟩ := P l0 hm0 y0 hw0
 refine (laws_FnEvicted.calls k _ _ l0 true w (Kd.C_of_reads (d := (0 : Int)) (h1 := fun _ => rfl) hr0) hc0 h).mono ?_
 rintro e w' ⟨rfl, hd⟩
 exact ⟨rfl, hd⟩

end Go.Proofs.Ytggfndobfpmoaaa.PFnEvicted

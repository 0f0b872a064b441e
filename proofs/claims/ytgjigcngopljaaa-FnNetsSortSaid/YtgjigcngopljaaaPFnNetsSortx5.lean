-- Laid by a program of this session: what the print of the kit writes, and contracts of the session where the print takes no function. Lean checks it.
import Derived.Test.YtgjigcngopljaaaPFnNetsSortx0
import Derived.Test.YtgjigcngopljaaaPFnNetsSortx1
import Derived.Test.YtgjigcngopljaaaPFnNetsSortx2
import Derived.Test.YtgjigcngopljaaaPFnNetsSortx3
import Derived.Test.YtgjigcngopljaaaPFnNetsSortx4
namespace Go.Proofs.Ytgjigcngopljaaa.PFnNetsSort
open Go.RowKit Go.Proofs.YtgjigcngopljaaaW.PrintWords Go.Proofs.YtgjigcngopljaaaW.PrintLast Go.Proofs.YtgjigcngopljaaaW.PrintMore
attribute [local go_sem] max2_int min2_int max_two min_two max_three min_three max_four min_four   -- for this text's walks alone
set_option linter.unusedVariables false
set_option linter.unusedSimpArgs false

/-! ### laws_FnNetsSort: function 3 -/
mutual
def laws_FnNetsSort.l0 : Nat → List Int → Int → List (S28) → Int → Option (Bool)
  | 0, _, _, _, _ => none
  | k + 1, x0, x3, x4, x5 => if x5 < 3 then (laws_FnNetsSort.l1 k x0 x3 x4 x5 (([] : List Int)) 0) else (if 0 < (x4.length : Int) then (if ((rd_T28 x4 0).f0) = x3 then (if 1 < (x4.length : Int) then (some (((rd_T28 x4 1).f0) == x3)) else (none)) else (some false)) else (none))
def laws_FnNetsSort.l1 : Nat → List Int → Int → List (S28) → Int → List Int → Int → Option (Bool)
  | 0, _, _, _, _, _, _ => none
  | k + 1, x0, x3, x4, x5, x6, x7 => if 0 ≤ x5 then (if x5 < (x4.length : Int) then (if x7 < ((rd_T28 x4 x5).f0) then ((laws_pick.f k x0 5 300).bind fun t171 => ((laws_pick.f k x0 (wrap64 (3 + (wrap64 (2 * x7)))) (wrap64 (1 + t171))).bind fun t172 => (if x6.length < 17592186044416 then (laws_FnNetsSort.l1 k x0 x3 x4 x5 (x6 ++ [t172]) (wrap64 (x7 + 1))) else (none)))) else ((some (([] : List Int) : List Int)).bind fun y177 => (if y177.length + x6.length < 17592186044416 then ((impl_NetRun.f ((rd_T28 x4 x5).f0) ((rd_T28 x4 x5).f1) (y177 ++ x6)).bind fun t183 => (if (t183.length : Int) = (x6.length : Int) then (if (x6.length : Int) = 0 then (laws_FnNetsSort.j2 k x0 x3 x4 x5 x6 t183 true) else ((laws_sorted.f k t183).bind fun t186 => (if t186 = true then ((spec_NetOk.f k ((rd_T28 x4 x5).f0) ((rd_T28 x4 x5).f1)).bind fun t188 => (laws_FnNetsSort.j2 k x0 x3 x4 x5 x6 t183 (!t188))) else (laws_FnNetsSort.j2 k x0 x3 x4 x5 x6 t183 true)))) else (laws_FnNetsSort.j2 k x0 x3 x4 x5 x6 t183 true))) else (none)))) else (none)) else (none)
def laws_FnNetsSort.j2 : Nat → List Int → Int → List (S28) → Int → List Int → List Int → Bool → Option (Bool)
  | 0, _, _, _, _, _, _, _ => none
  | k + 1, x0, x3, x4, x5, x6, x8, x81 => if x81 = true then (some false) else (laws_FnNetsSort.l2 k x0 x3 x4 x5 x6 x8 0)
def laws_FnNetsSort.l2 : Nat → List Int → Int → List (S28) → Int → List Int → List Int → Int → Option (Bool)
  | 0, _, _, _, _, _, _, _ => none
  | k + 1, x0, x3, x4, x5, x6, x8, x9 => if x9 < (x6.length : Int) then (if 0 ≤ x9 then ((laws_counts.f k x8 (rd x6 x9)).bind fun t190 => ((laws_counts.f k x6 (rd x6 x9)).bind fun t192 => (if t190 = t192 then (laws_FnNetsSort.l2 k x0 x3 x4 x5 x6 x8 (wrap64 (x9 + 1))) else (some false)))) else (none)) else (laws_FnNetsSort.l0 k x0 x3 x4 (wrap64 (x5 + 1)))
end
def laws_FnNetsSort.f (k : Nat) (l0 : List Int) : Option (Bool) := (laws_big.f l0).bind fun t143 => (if t143 = true then (some true) else ((some (([1, 2, 4, 8, 16, 32, 64] : List Int) : List Int)).bind fun y144 => ((laws_pick.f k l0 1 7).bind fun t147 => (if 0 ≤ t147 then (if t147 < (y144.length : Int) then ((impl_Bitonic.f k (rd y144 t147)).bind fun bt149 => ((impl_OddEven.f k (rd y144 t147)).bind fun bt153 => ((laws_pick.f k l0 2 40).bind fun t157 => ((impl_Bubble.f k (wrap64 (1 + t157))).bind fun bt158 => (laws_FnNetsSort.l0 k l0 (rd y144 t147) (([(⟨bt149.1, bt149.2⟩ : S28), (⟨bt153.1, bt153.2⟩ : S28), (⟨bt158.1, bt158.2⟩ : S28)] : List (S28))) 0))))) else (none)) else (none)))))
theorem laws_FnNetsSort.mono_l : ∀ k, (∀ y0 y1 y2 y3, LeO (laws_FnNetsSort.l0 k y0 y1 y2 y3) (laws_FnNetsSort.l0 (k + 1) y0 y1 y2 y3)) ∧ (∀ y0 y1 y2 y3 y4 y5, LeO (laws_FnNetsSort.l1 k y0 y1 y2 y3 y4 y5) (laws_FnNetsSort.l1 (k + 1) y0 y1 y2 y3 y4 y5)) ∧ (∀ y0 y1 y2 y3 y4 y5 y6, LeO (laws_FnNetsSort.j2 k y0 y1 y2 y3 y4 y5 y6) (laws_FnNetsSort.j2 (k + 1) y0 y1 y2 y3 y4 y5 y6)) ∧ (∀ y0 y1 y2 y3 y4 y5 y6, LeO (laws_FnNetsSort.l2 k y0 y1 y2 y3 y4 y5 y6) (laws_FnNetsSort.l2 (k + 1) y0 y1 y2 y3 y4 y5 y6))
  | 0 => ⟨fun _ _ _ _ r h => by simp [laws_FnNetsSort.l0] at h, fun _ _ _ _ _ _ r h => by simp [laws_FnNetsSort.l1] at h, fun _ _ _ _ _ _ _ r h => by simp [laws_FnNetsSort.j2] at h, fun _ _ _ _ _ _ _ r h => by simp [laws_FnNetsSort.l2] at h⟩
  | k + 1 => by
    obtain ⟨ih0, ih1, ih2, ih3⟩ := laws_FnNetsSort.mono_l k
    refine ⟨?_, ?_, ?_, ?_⟩
    · intro y0 y1 y2 y3
      unfold laws_FnNetsSort.l0
      repeat' first
      | (with_reducible exact ih0 _ _ _ _)
      | (with_reducible exact ih1 _ _ _ _ _ _)
      | (with_reducible exact ih2 _ _ _ _ _ _ _)
      | (with_reducible exact ih3 _ _ _ _ _ _ _)
      | (with_reducible exact impl_Bitonic.mono _ _)
      | (with_reducible exact impl_Bubble.mono _ _)
      | (with_reducible exact impl_OddEven.mono _ _)
      | (with_reducible exact laws_counts.mono _ _ _)
      | (with_reducible exact laws_pick.mono _ _ _ _)
      | (with_reducible exact laws_sorted.mono _ _)
      | (with_reducible exact spec_NetOk.mono _ _ _)
      | (with_reducible exact LeO.refl _)
      | (with_reducible exact LeO.none _)
      | (with_reducible refine LeO.ite ?_ ?_)
      | (with_reducible refine LeO.bind ?_ (fun _ => ?_))
      | exact ih0 _ _ _ _
      | exact ih1 _ _ _ _ _ _
      | exact ih2 _ _ _ _ _ _ _
      | exact ih3 _ _ _ _ _ _ _
      | exact impl_Bitonic.mono _ _
      | exact impl_Bubble.mono _ _
      | exact impl_OddEven.mono _ _
      | exact laws_counts.mono _ _ _
      | exact laws_pick.mono _ _ _ _
      | exact laws_sorted.mono _ _
      | exact spec_NetOk.mono _ _ _
      | exact LeO.none _
      | refine LeO.ite ?_ ?_
      | refine LeO.bind ?_ (fun _ => ?_)
    · intro y0 y1 y2 y3 y4 y5
      unfold laws_FnNetsSort.l1
      repeat' first
      | (with_reducible exact ih0 _ _ _ _)
      | (with_reducible exact ih1 _ _ _ _ _ _)
      | (with_reducible exact ih2 _ _ _ _ _ _ _)
      | (with_reducible exact ih3 _ _ _ _ _ _ _)
      | (with_reducible exact impl_Bitonic.mono _ _)
      | (with_reducible exact impl_Bubble.mono _ _)
      | (with_reducible exact impl_OddEven.mono _ _)
      | (with_reducible exact laws_counts.mono _ _ _)
      | (with_reducible exact laws_pick.mono _ _ _ _)
      | (with_reducible exact laws_sorted.mono _ _)
      | (with_reducible exact spec_NetOk.mono _ _ _)
      | (with_reducible exact LeO.refl _)
      | (with_reducible exact LeO.none _)
      | (with_reducible refine LeO.ite ?_ ?_)
      | (with_reducible refine LeO.bind ?_ (fun _ => ?_))
      | exact ih0 _ _ _ _
      | exact ih1 _ _ _ _ _ _
      | exact ih2 _ _ _ _ _ _ _
      | exact ih3 _ _ _ _ _ _ _
      | exact impl_Bitonic.mono _ _
      | exact impl_Bubble.mono _ _
      | exact impl_OddEven.mono _ _
      | exact laws_counts.mono _ _ _
      | exact laws_pick.mono _ _ _ _
      | exact laws_sorted.mono _ _
      | exact spec_NetOk.mono _ _ _
      | exact LeO.none _
      | refine LeO.ite ?_ ?_
      | refine LeO.bind ?_ (fun _ => ?_)
    · intro y0 y1 y2 y3 y4 y5 y6
      unfold laws_FnNetsSort.j2
      repeat' first
      | (with_reducible exact ih0 _ _ _ _)
      | (with_reducible exact ih1 _ _ _ _ _ _)
      | (with_reducible exact ih2 _ _ _ _ _ _ _)
      | (with_reducible exact ih3 _ _ _ _ _ _ _)
      | (with_reducible exact impl_Bitonic.mono _ _)
      | (with_reducible exact impl_Bubble.mono _ _)
      | (with_reducible exact impl_OddEven.mono _ _)
      | (with_reducible exact laws_counts.mono _ _ _)
      | (with_reducible exact laws_pick.mono _ _ _ _)
      | (with_reducible exact laws_sorted.mono _ _)
      | (with_reducible exact spec_NetOk.mono _ _ _)
      | (with_reducible exact LeO.refl _)
      | (with_reducible exact LeO.none _)
      | (with_reducible refine LeO.ite ?_ ?_)
      | (with_reducible refine LeO.bind ?_ (fun _ => ?_))
      | exact ih0 _ _ _ _
      | exact ih1 _ _ _ _ _ _
      | exact ih2 _ _ _ _ _ _ _
      | exact ih3 _ _ _ _ _ _ _
      | exact impl_Bitonic.mono _ _
      | exact impl_Bubble.mono _ _
      | exact impl_OddEven.mono _ _
      | exact laws_counts.mono _ _ _
      | exact laws_pick.mono _ _ _ _
      | exact laws_sorted.mono _ _
      | exact spec_NetOk.mono _ _ _
      | exact LeO.none _
      | refine LeO.ite ?_ ?_
      | refine LeO.bind ?_ (fun _ => ?_)
    · intro y0 y1 y2 y3 y4 y5 y6
      unfold laws_FnNetsSort.l2
      repeat' first
      | (with_reducible exact ih0 _ _ _ _)
      | (with_reducible exact ih1 _ _ _ _ _ _)
      | (with_reducible exact ih2 _ _ _ _ _ _ _)
      | (with_reducible exact ih3 _ _ _ _ _ _ _)
      | (with_reducible exact impl_Bitonic.mono _ _)
      | (with_reducible exact impl_Bubble.mono _ _)
      | (with_reducible exact impl_OddEven.mono _ _)
      | (with_reducible exact laws_counts.mono _ _ _)
      | (with_reducible exact laws_pick.mono _ _ _ _)
      | (with_reducible exact laws_sorted.mono _ _)
      | (with_reducible exact spec_NetOk.mono _ _ _)
      | (with_reducible exact LeO.refl _)
      | (with_reducible exact LeO.none _)
      | (with_reducible refine LeO.ite ?_ ?_)
      | (with_reducible refine LeO.bind ?_ (fun _ => ?_))
      | exact ih0 _ _ _ _
      | exact ih1 _ _ _ _ _ _
      | exact ih2 _ _ _ _ _ _ _
      | exact ih3 _ _ _ _ _ _ _
      | exact impl_Bitonic.mono _ _
      | exact impl_Bubble.mono _ _
      | exact impl_OddEven.mono _ _
      | exact laws_counts.mono _ _ _
      | exact laws_pick.mono _ _ _ _
      | exact laws_sorted.mono _ _
      | exact spec_NetOk.mono _ _ _
      | exact LeO.none _
      | refine LeO.ite ?_ ?_
      | refine LeO.bind ?_ (fun _ => ?_)
theorem laws_FnNetsSort.mono : ∀ a0 k, LeO (laws_FnNetsSort.f k a0) (laws_FnNetsSort.f (k + 1) a0) := by
  intro a0 k
  obtain ⟨ih0, ih1, ih2, ih3⟩ := laws_FnNetsSort.mono_l k
  unfold laws_FnNetsSort.f
  repeat' first
      | (with_reducible exact ih0 _ _ _ _)
      | (with_reducible exact ih1 _ _ _ _ _ _)
      | (with_reducible exact ih2 _ _ _ _ _ _ _)
      | (with_reducible exact ih3 _ _ _ _ _ _ _)
      | (with_reducible exact impl_Bitonic.mono _ _)
      | (with_reducible exact impl_Bubble.mono _ _)
      | (with_reducible exact impl_OddEven.mono _ _)
      | (with_reducible exact laws_counts.mono _ _ _)
      | (with_reducible exact laws_pick.mono _ _ _ _)
      | (with_reducible exact laws_sorted.mono _ _)
      | (with_reducible exact spec_NetOk.mono _ _ _)
      | (with_reducible exact LeO.refl _)
      | (with_reducible exact LeO.none _)
      | (with_reducible refine LeO.ite ?_ ?_)
      | (with_reducible refine LeO.bind ?_ (fun _ => ?_))
      | exact ih0 _ _ _ _
      | exact ih1 _ _ _ _ _ _
      | exact ih2 _ _ _ _ _ _ _
      | exact ih3 _ _ _ _ _ _ _
      | exact impl_Bitonic.mono _ _
      | exact impl_Bubble.mono _ _
      | exact impl_OddEven.mono _ _
      | exact laws_counts.mono _ _ _
      | exact laws_pick.mono _ _ _ _
      | exact laws_sorted.mono _ _
      | exact spec_NetOk.mono _ _ _
      | exact LeO.none _
      | refine LeO.ite ?_ ?_
      | refine LeO.bind ?_ (fun _ => ?_)
def laws_FnNetsSort.T13 : Bool × List (List Nat × List Nat) := (true, [([], []), ([], []), ([0, 1], [0, 1]), ([2], [2]), ([], []), ([], []), ([4, 5], [4, 5]), ([3, 6, 6], [3, 6]), ([7, 7, 0, 1, 2, 3, 4, 5, 6, 7], [7])])
def laws_FnNetsSort.B13 : List Nat := [0, 0, 3, 7, 0, 0, 48, 127, 255]
theorem laws_FnNetsSort.tab13 : rtab .any (opsOf Try.f3 13) = laws_FnNetsSort.T13 := by kernel_rfl
theorem laws_FnNetsSort.bits13 : waitsOk laws_FnNetsSort.T13.2 laws_FnNetsSort.B13 = true := by kernel_rfl
def laws_FnNetsSort.T19 : Bool × List (List Nat × List Nat) := (true, [([], []), ([], []), ([], []), ([1, 2], [1, 2]), ([3], [3]), ([0, 4], [0, 4]), ([], []), ([], []), ([], []), ([7, 8], [7, 8]), ([9], [9]), ([6, 10, 5], [6, 10]), ([5, 11], [5, 11])])
def laws_FnNetsSort.B19 : List Nat := [0, 0, 0, 6, 14, 31, 0, 0, 0, 384, 896, 2047, 4095]
theorem laws_FnNetsSort.tab19 : rtab .any (opsOf Try.f3 19) = laws_FnNetsSort.T19 := by kernel_rfl
theorem laws_FnNetsSort.bits19 : waitsOk laws_FnNetsSort.T19.2 laws_FnNetsSort.B19 = true := by kernel_rfl
set_option maxHeartbeats 8000000 in
set_option maxRecDepth 100000 in
theorem laws_FnNetsSort.calls (k : Nat) (A0 : Option Addr) (c0 : Nat) (l0 : List Int) (r : Bool) (w : World) (hr0 : Kd.C (Kd.int .u8) w A0 l0.length l0) (hc0 : l0.length ≤ c0) (h : laws_FnNetsSort.f k l0 = some r) (hT_ : r = true := by rfl) :
    Calls Try.prog 3 #[.slice A0 l0.length c0] w fun e w' => e = .returned (.bool r) ∧ Below w.heap.size w w' := by
  have HTRUE_ := Aside0.mk hT_
  clear hT_
  have hu28 := Try.underlying28
  have HR0 := Aside0.mk hr0
  have HC0 := Aside0.mk hc0
  clear hr0 hc0
  have HB := Aside0.mk (Below.refl w.heap.size w)
  have H : ((laws_big.f l0).bind fun t143 => (if t143 = true then (some true) else ((some (([1, 2, 4, 8, 16, 32, 64] : List Int) : List Int)).bind fun y144 => ((laws_pick.f k l0 1 7).bind fun t147 => (if 0 ≤ t147 then (if t147 < (y144.length : Int) then ((impl_Bitonic.f k (rd y144 t147)).bind fun bt149 => ((impl_OddEven.f k (rd y144 t147)).bind fun bt153 => ((laws_pick.f k l0 2 40).bind fun t157 => ((impl_Bubble.f k (wrap64 (1 + t157))).bind fun bt158 => (laws_FnNetsSort.l0 k l0 (rd y144 t147) (([(⟨bt149.1, bt149.2⟩ : S28), (⟨bt153.1, bt153.2⟩ : S28), (⟨bt158.1, bt158.2⟩ : S28)] : List (S28))) 0))))) else (none)) else (none)))))) = some r := h
  clear h
  replace H := Option.bind_eq_some_iff.mp H
  obtain ⟨t143, A20, H⟩ := H
  replace H : (if t143 = true then (some true) else ((some (([1, 2, 4, 8, 16, 32, 64] : List Int) : List Int)).bind fun y144 => ((laws_pick.f k l0 1 7).bind fun t147 => (if 0 ≤ t147 then (if t147 < (y144.length : Int) then ((impl_Bitonic.f k (rd y144 t147)).bind fun bt149 => ((impl_OddEven.f k (rd y144 t147)).bind fun bt153 => ((laws_pick.f k l0 2 40).bind fun t157 => ((impl_Bubble.f k (wrap64 (1 + t157))).bind fun bt158 => (laws_FnNetsSort.l0 k l0 (rd y144 t147) (([(⟨bt149.1, bt149.2⟩ : S28), (⟨bt153.1, bt153.2⟩ : S28), (⟨bt158.1, bt158.2⟩ : S28)] : List (S28))) 0))))) else (none)) else (none))))) = some r := H
  have A2 := Aside0.mk A20
  clear A20
  by_cases c3 : t143 = true
  · subst c3
    have H1 : (some true) = some r := by rw [if_pos rfl] at H; exact H
    clear H
    have H := H1
    clear H1
    obtain rfl := Option.some.inj H
    go_enter Try.func3, Try.ntmps3
    go_wp2_with (first | ((with_reducible refine gate_callee (f := 4) rfl ?_); refine goesL_ (some 11) rfl rfl Try.func4 (by kernel_rfl) rfl #[.slice A0 l0.length c0] rfl (by (try simp only [List.map_toArray, List.map_cons, List.map_nil]); first | done | rfl | (simp only [List.length_drop, List.length_take]; rfl)) ?_; (with_reducible refine (laws_big.calls _ _ l0 true _ ?side1 ?side2 A2.out).mono ?_); (case side1 => repeat (first | exact HR0.out | (with_reducible refine Kd.C_alloc ?_ _) | (with_reducible refine Kd.C_drewN ?_ _) | (with_reducible refine Kd.C_drew ?_))); (case side2 => exact HC0.out); rintro e w' ⟨rfl, ⟨nd, rfl⟩⟩; refine ⟨_, rfl, ?_⟩))
    go_ret
    exact ⟨by first | rfl | (simp [errW_none, errW_some] <;> rfl) | (simp [*, errW_none, errW_some] <;> rfl), by repeat (first | (with_reducible first | exact HB.out | apply below_alloc | apply pw_below_drewN | apply below_drew1) | exact HB.out)⟩
  · replace c3 := Bool.eq_false_iff.mpr c3
    subst c3
    have H1 : ((some (([1, 2, 4, 8, 16, 32, 64] : List Int) : List Int)).bind fun y144 => ((laws_pick.f k l0 1 7).bind fun t147 => (if 0 ≤ t147 then (if t147 < (y144.length : Int) then ((impl_Bitonic.f k (rd y144 t147)).bind fun bt149 => ((impl_OddEven.f k (rd y144 t147)).bind fun bt153 => ((laws_pick.f k l0 2 40).bind fun t157 => ((impl_Bubble.f k (wrap64 (1 + t157))).bind fun bt158 => (laws_FnNetsSort.l0 k l0 (rd y144 t147) (([(⟨bt149.1, bt149.2⟩ : S28), (⟨bt153.1, bt153.2⟩ : S28), (⟨bt158.1, bt158.2⟩ : S28)] : List (S28))) 0))))) else (none)) else (none)))) = some r := by rw [if_neg (show ¬ (false = true) by decide)] at H; exact H
    clear H
    have H := H1
    clear H1
    obtain ⟨y144, hy144⟩ : ∃ y_ : List Int, y_ = (([1, 2, 4, 8, 16, 32, 64] : List Int)) := ⟨_, rfl⟩
    replace H : ((laws_pick.f k l0 1 7).bind fun t147 => (if 0 ≤ t147 then (if t147 < (y144.length : Int) then ((impl_Bitonic.f k (rd y144 t147)).bind fun bt149 => ((impl_OddEven.f k (rd y144 t147)).bind fun bt153 => ((laws_pick.f k l0 2 40).bind fun t157 => ((impl_Bubble.f k (wrap64 (1 + t157))).bind fun bt158 => (laws_FnNetsSort.l0 k l0 (rd y144 t147) (([(⟨bt149.1, bt149.2⟩ : S28), (⟨bt153.1, bt153.2⟩ : S28), (⟨bt158.1, bt158.2⟩ : S28)] : List (S28))) 0))))) else (none)) else (none))) = some r := by first | (rw [hy144]; with_reducible exact H) | (have H2_ := (Option.bind_some _ _).symm.trans H; rw [hy144]; with_reducible exact H2_) | (have H2_ := (Option.bind_some _ _).symm.trans H; with_reducible exact H2_) | with_reducible exact H | (rw [hy144]; exact H) | exact H
    have Ny144 := Aside0.mk hy144
    clear hy144
    replace H := Option.bind_eq_some_iff.mp H
    obtain ⟨t147, A40, H⟩ := H
    replace H : (if 0 ≤ t147 then (if t147 < (y144.length : Int) then ((impl_Bitonic.f k (rd y144 t147)).bind fun bt149 => ((impl_OddEven.f k (rd y144 t147)).bind fun bt153 => ((laws_pick.f k l0 2 40).bind fun t157 => ((impl_Bubble.f k (wrap64 (1 + t157))).bind fun bt158 => (laws_FnNetsSort.l0 k l0 (rd y144 t147) (([(⟨bt149.1, bt149.2⟩ : S28), (⟨bt153.1, bt153.2⟩ : S28), (⟨bt158.1, bt158.2⟩ : S28)] : List (S28))) 0))))) else (none)) else (none)) = some r := H
    have A4 := Aside0.mk A40
    clear A40
    by_cases c5 : 0 ≤ t147
    · rw [if_pos c5] at H
      have c5b0 : decide (0 ≤ t147) = true := decide_eq_true c5
      clear c5
      by_cases c6 : t147 < (y144.length : Int)
      · rw [if_pos c6] at H
        have c6b0 : decide (t147 < (y144.length : Int)) = true := decide_eq_true c6
        clear c6
        replace H := Option.bind_eq_some_iff.mp H
        obtain ⟨⟨t149, t150⟩, A70, H⟩ := H
        replace H : ((impl_OddEven.f k (rd y144 t147)).bind fun bt153 => ((laws_pick.f k l0 2 40).bind fun t157 => ((impl_Bubble.f k (wrap64 (1 + t157))).bind fun bt158 => (laws_FnNetsSort.l0 k l0 (rd y144 t147) (([(⟨t149, t150⟩ : S28), (⟨bt153.1, bt153.2⟩ : S28), (⟨bt158.1, bt158.2⟩ : S28)] : List (S28))) 0)))) = some r := H
        have A7 := Aside0.mk A70
        clear A70
        replace H := Option.bind_eq_some_iff.mp H
        obtain ⟨⟨t153, t154⟩, A80, H⟩ := H
        replace H : ((laws_pick.f k l0 2 40).bind fun t157 => ((impl_Bubble.f k (wrap64 (1 + t157))).bind fun bt158 => (laws_FnNetsSort.l0 k l0 (rd y144 t147) (([(⟨t149, t150⟩ : S28), (⟨t153, t154⟩ : S28), (⟨bt158.1, bt158.2⟩ : S28)] : List (S28))) 0))) = some r := H
        have A8 := Aside0.mk A80
        clear A80
        replace H := Option.bind_eq_some_iff.mp H
        obtain ⟨t157, A90, H⟩ := H
        replace H : ((impl_Bubble.f k (wrap64 (1 + t157))).bind fun bt158 => (laws_FnNetsSort.l0 k l0 (rd y144 t147) (([(⟨t149, t150⟩ : S28), (⟨t153, t154⟩ : S28), (⟨bt158.1, bt158.2⟩ : S28)] : List (S28))) 0)) = some r := H
        have A9 := Aside0.mk A90
        clear A90
        replace H := Option.bind_eq_some_iff.mp H
        obtain ⟨⟨t158, t159⟩, A100, H⟩ := H
        replace H : (laws_FnNetsSort.l0 k l0 (rd y144 t147) (([(⟨t149, t150⟩ : S28), (⟨t153, t154⟩ : S28), (⟨t158, t159⟩ : S28)] : List (S28))) 0) = some r := H
        have A10 := Aside0.mk A100
        clear A100
        obtain ⟨y162, hy162⟩ : ∃ y_ : List (S28), y_ = (([(⟨t149, t150⟩ : S28), (⟨t153, t154⟩ : S28), (⟨t158, t159⟩ : S28)] : List (S28))) := ⟨_, rfl⟩
        replace H : (laws_FnNetsSort.l0 k l0 (rd y144 t147) y162 0) = some r := by first | (rw [hy162]; with_reducible exact H) | (have H2_ := (Option.bind_some _ _).symm.trans H; rw [hy162]; with_reducible exact H2_) | (have H2_ := (Option.bind_some _ _).symm.trans H; with_reducible exact H2_) | with_reducible exact H | (rw [hy162]; exact H) | exact H
        have Ny162 := Aside0.mk hy162
        clear hy162
        have H' := Aside0.mk H
        clear H
        go_enter Try.func3, Try.ntmps3
        go_wp2_with (first | ((with_reducible refine gate_callee (f := 4) rfl ?_); refine goesL_ (some 11) rfl rfl Try.func4 (by kernel_rfl) rfl #[.slice A0 l0.length c0] rfl (by (try simp only [List.map_toArray, List.map_cons, List.map_nil]); first | done | rfl | (simp only [List.length_drop, List.length_take]; rfl)) ?_; (with_reducible refine (laws_big.calls _ _ l0 false _ ?side1 ?side2 A2.out).mono ?_); (case side1 => repeat (first | exact HR0.out | (with_reducible refine Kd.C_alloc ?_ _) | (with_reducible refine Kd.C_drewN ?_ _) | (with_reducible refine Kd.C_drew ?_))); (case side2 => exact HC0.out); rintro e w' ⟨rfl, ⟨nd, rfl⟩⟩; refine ⟨_, rfl, ?_⟩) | ((with_reducible refine gate_dst (N := 12) rfl ?_); (try (refine gate_guard (by rfl) ?_; dsimp only)); refine Kd.R_lit (Kd.int .i64) _ 3 ?hg (N := 12) ?hd (xs := ([1, 2, 4, 8, 16, 32, 64] : List Int)) (inner := [.int .i64 1, .int .i64 2, .int .i64 4, .int .i64 8, .int .i64 16, .int .i64 32, .int .i64 64]) (ok := fun _ => True) (okp := fun _ => True) ?hr ?hp (fun _ hk => hk) trivial (Below.refl _ _) (Nat.le_refl _) (by simp) ?_; (case hd => rfl); (case hg => rfl); (case hr => first | (go_simp; done) | (go_simp; rfl)); (case hp => exact (Reps.one (show Kd.M (Kd.int .i64) _ _ _ 1 [.int .i64 1] from rfl) (Reps.one (show Kd.M (Kd.int .i64) _ _ _ 2 [.int .i64 2] from rfl) (Reps.one (show Kd.M (Kd.int .i64) _ _ _ 4 [.int .i64 4] from rfl) (Reps.one (show Kd.M (Kd.int .i64) _ _ _ 8 [.int .i64 8] from rfl) (Reps.one (show Kd.M (Kd.int .i64) _ _ _ 16 [.int .i64 16] from rfl) (Reps.one (show Kd.M (Kd.int .i64) _ _ _ 32 [.int .i64 32] from rfl) (Reps.one (show Kd.M (Kd.int .i64) _ _ _ 64 [.int .i64 64] from rfl) (Reps.none _ _))))))))); intro v145 w11 ho12 hb hg_ hnew_; clear hg_ hnew_; (first | rw [← Ny144.out] at ho12 | (simp only [Int.reduceToNat] at ho12; rw [← Ny144.out] at ho12)); have n0_ := Aside0.mk (Kd.R_lower ho12 (below_size (by repeat (first | (with_reducible first | exact HB.out | apply below_alloc | apply pw_below_drewN | apply below_drew1) | exact HB.out)))); have n1_ := Aside0.mk (below_step (by repeat (first | (with_reducible first | exact HB.out | apply below_alloc | apply pw_below_drewN | apply below_drew1) | exact HB.out)) hb); clear HB; have HO146 := n0_; have HB := n1_; clear n0_ n1_; clear hb ho12) | ((with_reducible refine gate_callee (f := 5) rfl ?_); refine goesL_ (some 14) rfl rfl Try.func5 (by kernel_rfl) rfl #[.slice A0 l0.length c0, .int .i64 1, .int .i64 7] rfl (by (try simp only [List.map_toArray, List.map_cons, List.map_nil]); first | done | rfl | (simp only [List.length_drop, List.length_take]; rfl)) ?_; (with_reducible refine (laws_pick.calls k _ _ l0 1 7 t147 _ ?side1 ?side2 A4.out).mono ?_); (case side1 => repeat (first | exact (Kd.C_below HR0.out HB.out) | (with_reducible refine Kd.C_alloc ?_ _) | (with_reducible refine Kd.C_drewN ?_ _) | (with_reducible refine Kd.C_drew ?_))); (case side2 => exact HC0.out); rintro e w' ⟨rfl, ⟨nd, rfl⟩⟩; refine ⟨_, rfl, ?_⟩; obtain ⟨Ao13, co13, eo13⟩ := Kd.R_slice HO146.out; subst eo13; have p148 : 0 ≤ (t147 : Int) := of_decide_eq_true (by first | (with_reducible assumption) | assumption); have q148 : t147 < (y144.length : Int) := of_decide_eq_true (by first | (with_reducible assumption) | assumption); obtain ⟨ad148, e148, hx148_0⟩ := Kd.at_int (Kd.R_reads' HO146.out).2.2 t147 p148 q148; cases e148; replace p148 := eq_true p148; replace q148 := eq_true q148) | ((with_reducible refine gate_callee (f := 6) rfl ?_); refine goesL_ (some 18) rfl rfl Try.func6 (by kernel_rfl) rfl #[.int .i64 (rd y144 t147)] rfl (by (try simp only [List.map_toArray, List.map_cons, List.map_nil]); first | done | rfl | (simp only [List.length_drop, List.length_take]; rfl)) ?_; (with_reducible refine (impl_Bitonic.calls k (rd y144 t147) t149 t150 _ A7.out).mono ?_); rintro e w14 ⟨v151, rfl, ho0, hb⟩; refine ⟨_, rfl, ?_⟩; have n0_ := Aside0.mk (Kd.R_below (by (with_reducible repeat (first | apply Kd.R_alloc | apply Kd.R_drewN | apply Kd.R_drew)); exact HO146.out) hb); have n1_ := Aside0.mk (Kd.R_lower ho0 (below_size (by repeat (first | (with_reducible first | exact HB.out | apply below_alloc | apply pw_below_drewN | apply below_drew1) | exact HB.out)))); have n2_ := Aside0.mk (below_step (by repeat (first | (with_reducible first | exact HB.out | apply below_alloc | apply pw_below_drewN | apply below_drew1) | exact HB.out)) hb); clear HO146; clear HB; have HO146 := n0_; have HO152 := n1_; have HB := n2_; clear n0_ n1_ n2_; (try clear hb); (try clear hb2); (try clear hk); (try clear hi); (try clear ho0)) | ((with_reducible refine gate_callee (f := 7) rfl ?_); refine goesL_ (some 20) rfl rfl Try.func7 (by kernel_rfl) rfl #[.int .i64 (rd y144 t147)] rfl (by (try simp only [List.map_toArray, List.map_cons, List.map_nil]); first | done | rfl | (simp only [List.length_drop, List.length_take]; rfl)) ?_; (with_reducible refine (impl_OddEven.calls k (rd y144 t147) t153 t154 _ A8.out).mono ?_); rintro e w15 ⟨v155, rfl, ho0, hb⟩; refine ⟨_, rfl, ?_⟩; have n0_ := Aside0.mk (Kd.R_below (by (with_reducible repeat (first | apply Kd.R_alloc | apply Kd.R_drewN | apply Kd.R_drew)); exact HO146.out) hb); have n1_ := Aside0.mk (Kd.R_elder' (by (with_reducible repeat (first | apply Kd.R_alloc | apply Kd.R_drewN | apply Kd.R_drew)); exact HO152.out) (Kd.R_base ho0) hb); have n2_ := Aside0.mk (Kd.R_lower (Kd.R_new' ho0 (Kd.R_lt (by (with_reducible repeat (first | apply Kd.R_alloc | apply Kd.R_drewN | apply Kd.R_drew)); exact HO152.out))) (below_size (by repeat (first | (with_reducible first | exact HB.out | apply below_alloc | apply pw_below_drewN | apply below_drew1) | exact HB.out)))); have n3_ := Aside0.mk (below_step (by repeat (first | (with_reducible first | exact HB.out | apply below_alloc | apply pw_below_drewN | apply below_drew1) | exact HB.out)) hb); clear HO146; clear HO152; clear HB; have HO146 := n0_; have HO152 := n1_; have HO156 := n2_; have HB := n3_; clear n0_ n1_ n2_ n3_; (try clear hb); (try clear hb2); (try clear hk); (try clear hi); (try clear ho0)) | ((with_reducible refine gate_callee (f := 5) rfl ?_); refine goesL_ (some 22) rfl rfl Try.func5 (by kernel_rfl) rfl #[.slice A0 l0.length c0, .int .i64 2, .int .i64 40] rfl (by (try simp only [List.map_toArray, List.map_cons, List.map_nil]); first | done | rfl | (simp only [List.length_drop, List.length_take]; rfl)) ?_; (with_reducible refine (laws_pick.calls k _ _ l0 2 40 t157 _ ?side1 ?side2 A9.out).mono ?_); (case side1 => repeat (first | exact (Kd.C_below HR0.out HB.out) | (with_reducible refine Kd.C_alloc ?_ _) | (with_reducible refine Kd.C_drewN ?_ _) | (with_reducible refine Kd.C_drew ?_))); (case side2 => exact HC0.out); rintro e w' ⟨rfl, ⟨nd, rfl⟩⟩; refine ⟨_, rfl, ?_⟩) | ((with_reducible refine gate_callee (f := 8) rfl ?_); refine goesL_ (some 24) rfl rfl Try.func8 (by kernel_rfl) rfl #[.int .i64 (wrap64 (1 + t157))] rfl (by (try simp only [List.map_toArray, List.map_cons, List.map_nil]); first | done | rfl | (simp only [List.length_drop, List.length_take]; rfl)) ?_; (with_reducible refine (impl_Bubble.calls k (wrap64 (1 + t157)) t158 t159 _ A10.out).mono ?_); rintro e w16 ⟨v160, rfl, ho0, hb⟩; refine ⟨_, rfl, ?_⟩; have n0_ := Aside0.mk (Kd.R_below (by (with_reducible repeat (first | apply Kd.R_alloc | apply Kd.R_drewN | apply Kd.R_drew)); exact HO146.out) hb); have n1_ := Aside0.mk (Kd.R_elder' (by (with_reducible repeat (first | apply Kd.R_alloc | apply Kd.R_drewN | apply Kd.R_drew)); exact HO152.out) (Kd.R_base ho0) hb); have n2_ := Aside0.mk (Kd.R_elder' (by (with_reducible repeat (first | apply Kd.R_alloc | apply Kd.R_drewN | apply Kd.R_drew)); exact HO156.out) (Kd.R_base ho0) hb); have n3_ := Aside0.mk (Kd.R_lower (Kd.R_new' (Kd.R_new' ho0 (Kd.R_lt (by (with_reducible repeat (first | apply Kd.R_alloc | apply Kd.R_drewN | apply Kd.R_drew)); exact HO152.out))) (Kd.R_lt (by (with_reducible repeat (first | apply Kd.R_alloc | apply Kd.R_drewN | apply Kd.R_drew)); exact HO156.out))) (below_size (by repeat (first | (with_reducible first | exact HB.out | apply below_alloc | apply pw_below_drewN | apply below_drew1) | exact HB.out)))); have n4_ := Aside0.mk (below_step (by repeat (first | (with_reducible first | exact HB.out | apply below_alloc | apply pw_below_drewN | apply below_drew1) | exact HB.out)) hb); clear HO146; clear HO152; clear HO156; clear HB; have HO146 := n0_; have HO152 := n1_; have HO156 := n2_; have HO161 := n3_; have HB := n4_; clear n0_ n1_ n2_ n3_ n4_; (try clear hb); (try clear hb2); (try clear hk); (try clear hi); (try clear ho0); obtain ⟨Ao17, co17, eo17⟩ := Kd.R_slice HO152.out; subst eo17; obtain ⟨Ao18, co18, eo18⟩ := Kd.R_slice HO156.out; subst eo18; obtain ⟨Ao19, co19, eo19⟩ := Kd.R_slice HO161.out; subst eo19) | ((with_reducible refine gate_dst (N := 25) rfl ?_); (try (refine gate_guard (by rfl) ?_; dsimp only)); refine Kd.N_lit k28 _ 28 ?hg (N' := 25) ?hd (xs := ([(⟨t149, t150⟩ : S28), (⟨t153, t154⟩ : S28), (⟨t158, t159⟩ : S28)] : List (S28))) (inner := [.int .i64 t149, .slice Ao17 t150.length co17, .int .i64 t153, .slice Ao18 t154.length co18, .int .i64 t158, .slice Ao19 t159.length co19]) (ok := (fun k_ => some k_ ≠ (.slice (some ad148) y144.length co13 : Value).ownBlock)) (okp := (fun k_ => some k_ ≠ (.slice (some ad148) y144.length co13 : Value).ownBlock)) ?hr ?hp (fun _ hk => hk) ((show ∀ k_, w16.heap.size ≤ k_ → (fun k_ => some k_ ≠ (.slice (some ad148) y144.length co13 : Value).ownBlock) k_ from fun k_ hk => Kd.fresh' (Kd.R_lt (by (with_reducible repeat (first | apply Kd.R_alloc | apply Kd.R_drewN | apply Kd.R_drew)); exact HO146.out)) k_ hk) _ (Nat.le_refl _)) (Below.refl _ _) (Nat.le_refl _) (by simp) ?_; (case hd => rfl); (case hg => rfl); (case hr => first | (go_simp; done) | (go_simp; rfl)); (case hp => exact (Reps.c2 (show Kd.FK k28 _ _ (⟨t149, t150⟩ : S28) [.int .i64 t149, .slice Ao17 t150.length co17] from (k28_mkF _ _ (⟨t149, t150⟩ : S28) (Kd.R_reads' (Kd.R_mono (ok' := (fun k_ => some k_ ≠ (.slice (some ad148) y144.length co13 : Value).ownBlock)) (Kd.R_apart' (HO152.out) (Kd.R_typed HO146.out) (by decide)) (fun k_ hk => hk.2))).2.1 (Kd.R_F (Kd.R_mono (ok' := (fun k_ => some k_ ≠ (.slice (some ad148) y144.length co13 : Value).ownBlock)) (Kd.R_apart' (HO152.out) (Kd.R_typed HO146.out) (by decide)) (fun k_ hk => hk.2))))) (Reps.c2 (show Kd.FK k28 _ _ (⟨t153, t154⟩ : S28) [.int .i64 t153, .slice Ao18 t154.length co18] from (k28_mkF _ _ (⟨t153, t154⟩ : S28) (Kd.R_reads' (Kd.R_mono (ok' := (fun k_ => some k_ ≠ (.slice (some ad148) y144.length co13 : Value).ownBlock)) (Kd.R_apart' (HO156.out) (Kd.R_typed HO146.out) (by decide)) (fun k_ hk => hk.2))).2.1 (Kd.R_F (Kd.R_mono (ok' := (fun k_ => some k_ ≠ (.slice (some ad148) y144.length co13 : Value).ownBlock)) (Kd.R_apart' (HO156.out) (Kd.R_typed HO146.out) (by decide)) (fun k_ hk => hk.2))))) (Reps.c2 (show Kd.FK k28 _ _ (⟨t158, t159⟩ : S28) [.int .i64 t158, .slice Ao19 t159.length co19] from (k28_mkF _ _ (⟨t158, t159⟩ : S28) (Kd.R_reads' (Kd.R_mono (ok' := (fun k_ => some k_ ≠ (.slice (some ad148) y144.length co13 : Value).ownBlock)) (Kd.R_apart' (HO161.out) (Kd.R_typed HO146.out) (by decide)) (fun k_ hk => hk.2))).2.1 (Kd.R_F (Kd.R_mono (ok' := (fun k_ => some k_ ≠ (.slice (some ad148) y144.length co13 : Value).ownBlock)) (Kd.R_apart' (HO161.out) (Kd.R_typed HO146.out) (by decide)) (fun k_ hk => hk.2))))) (Reps.none _ _))))); intro v163 w20 ho21 hb hg_ hnew_; clear hg_ hnew_; (first | rw [← Ny162.out] at ho21 | (simp only [Int.reduceToNat] at ho21; rw [← Ny162.out] at ho21)); have n0_ := Aside0.mk (Kd.R_below (by (with_reducible repeat (first | apply Kd.R_alloc | apply Kd.R_drewN | apply Kd.R_drew)); exact HO146.out) hb); have n1_ := Aside0.mk (Kd.N_lower ho21 (below_size (by repeat (first | (with_reducible first | exact HB.out | apply below_alloc | apply pw_below_drewN | apply below_drew1) | exact HB.out)))); have n2_ := Aside0.mk (below_step (by repeat (first | (with_reducible first | exact HB.out | apply below_alloc | apply pw_below_drewN | apply below_drew1) | exact HB.out)) hb); clear HO146; clear HB; clear HO152; clear HO156; clear HO161; have HO146 := n0_; have HO164 := n1_; have HB := n2_; clear n0_ n1_ n2_; clear hb ho21))
        go_loopg [5] k (fun kq v5 w' => ∃ (x5_1 : Int), v5 = .int .i64 x5_1 ∧ Aside0 (laws_FnNetsSort.l0 kq l0 (rd y144 t147) y162 x5_1 = some r) ∧ Aside0 (kq ≤ k) ∧ Aside0 (Kd.N k28 28 w' w.heap.size (fun _ => True) v163 y162) ∧ Aside0 (Below w.heap.size w w'))
        case atStart => exact ⟨(0), (by first | rfl | (simp; done) | (simp [*]; done)), H', ⟨Nat.le_refl _⟩, ⟨by (with_reducible repeat (first | apply Kd.N_alloc | apply Kd.N_drewN | apply Kd.N_drew)); exact Kd.N_mono HO164.out (fun _ hk => trivial)⟩, ⟨by repeat (first | (with_reducible first | exact HB.out | apply below_alloc | apply pw_below_drewN | apply below_drew1) | exact HB.out)⟩⟩
        case round =>
          clear H'
          try clear p1
          try clear q1
          try clear hx1
          try clear c2
          try clear p2
          try clear c3
          try clear c4
          try clear c5
          try clear c5b0
          try clear c6
          try clear c6b0
          try clear p6
          try clear c7
          try clear c8
          try clear p14
          try clear q14
          try clear hx14
          try clear hx148_0
          try clear p148
          try clear q148
          obtain ⟨x5_1, rfl, HA, HK1, HO_4, HB⟩ := hrel
          cases gk with
          | zero => exact absurd HA.out (by simp [laws_FnNetsSort.l0])
          | succ k1 =>
            have H := HA.out
            clear HA
            simp only [laws_FnNetsSort.l0] at H
            by_cases c22 : x5_1 < 3
            · rw [if_pos c22] at H
              have c22b0 : decide (x5_1 < 3) = true := decide_eq_true c22
              clear c22
              obtain ⟨y167, hy167⟩ : ∃ y_ : List Int, y_ = (([] : List Int)) := ⟨_, rfl⟩
              replace H : (laws_FnNetsSort.l1 k1 l0 (rd y144 t147) y162 x5_1 y167 0) = some r := by first | (rw [hy167]; with_reducible exact H) | (have H2_ := (Option.bind_some _ _).symm.trans H; rw [hy167]; with_reducible exact H2_) | (have H2_ := (Option.bind_some _ _).symm.trans H; with_reducible exact H2_) | with_reducible exact H | (rw [hy167]; exact H) | exact H
              have Ny167 := Aside0.mk hy167
              clear hy167
              have H' := Aside0.mk H
              clear H
              go_wp2_with (first | ((with_reducible refine gate_dst (N := 30) rfl ?_); (try (refine gate_guard (by rfl) ?_; dsimp only)); refine Kd.R_lit (Kd.int .i64) _ 3 ?hg (N := 30) ?hd (xs := ([] : List Int)) (inner := []) (ok := fun _ => True) (okp := fun _ => True) ?hr ?hp (fun _ hk => hk) trivial (Below.refl _ _) (Nat.le_refl _) (by simp) ?_; (case hd => rfl); (case hg => rfl); (case hr => first | (go_simp; done) | (go_simp; rfl)); (case hp => exact (Reps.none _ _)); intro v168 w23 ho24 hb hg_ hnew_; clear hg_ hnew_; (first | rw [← Ny167.out] at ho24 | (simp only [Int.reduceToNat] at ho24; rw [← Ny167.out] at ho24)); have n0_ := Aside0.mk (Kd.N_elder' (by (with_reducible repeat (first | apply Kd.N_alloc | apply Kd.N_drewN | apply Kd.N_drew)); exact HO_4.out) (Kd.R_base ho24) hb); have n1_ := Aside0.mk (Kd.R_lower ho24 (below_size (by repeat (first | (with_reducible first | exact HB.out | apply below_alloc | apply pw_below_drewN | apply below_drew1) | exact HB.out)))); have n2_ := Aside0.mk (below_step (by repeat (first | (with_reducible first | exact HB.out | apply below_alloc | apply pw_below_drewN | apply below_drew1) | exact HB.out)) hb); clear HO_4; clear HB; have HO_4 := n0_; have HO169 := n1_; have HB := n2_; clear n0_ n1_ n2_; clear hb ho24))
              go_loopg [6, 7] k1 (fun kq v6 v7 w' => ∃ (x6_2 : List Int) (x7_2 : Int), v7 = .int .i64 x7_2 ∧ Aside0 (laws_FnNetsSort.l1 kq l0 (rd y144 t147) y162 x5_1 x6_2 x7_2 = some r) ∧ Aside0 (kq ≤ k1) ∧ Aside0 (Kd.N k28 28 w' w.heap.size (fun k_ => some k_ ≠ (v6 : Value).ownBlock) v163 y162) ∧ Aside0 (Kd.R (Kd.int .i64) 3 w' w.heap.size (fun _ => True) v6 x6_2) ∧ Aside0 (Below w.heap.size w w'))
              case atStart => exact ⟨(y167), (0), (by first | rfl | (simp; done) | (simp [*]; done)), H', ⟨Nat.le_refl _⟩, ⟨by (with_reducible repeat (first | apply Kd.N_alloc | apply Kd.N_drewN | apply Kd.N_drew)); exact Kd.N_mono HO_4.out (fun _ hk => by first | exact hk.2 | trivial | (simp only [hk, ne_eq, not_false_eq_true, and_self, and_true, true_and, implies_true]; done) | (simp [hk]; done))⟩, ⟨by (with_reducible repeat (first | apply Kd.R_alloc | apply Kd.R_drewN | apply Kd.R_drew)); exact HO169.out⟩, ⟨by repeat (first | (with_reducible first | exact HB.out | apply below_alloc | apply pw_below_drewN | apply below_drew1) | exact HB.out)⟩⟩
              case round =>
                clear H'
                try clear p1
                try clear q1
                try clear hx1
                try clear c2
                try clear p2
                try clear c3
                try clear c4
                try clear c5
                try clear c5b0
                try clear c6
                try clear c6b0
                try clear p6
                try clear c7
                try clear c8
                try clear p14
                try clear q14
                try clear hx14
                try clear c22
                try clear c22b0
                try clear hx148_0
                try clear p1
                try clear p14
                try clear p148
                try clear p2
                try clear p6
                try clear q1
                try clear q14
                try clear q148
                obtain ⟨x6_2, x7_2, rfl, HA, HK2, HO_4, HO_6, HB⟩ := hrel
                cases gk with
                | zero => exact absurd HA.out (by simp [laws_FnNetsSort.l1])
                | succ k2 =>
                  have H := HA.out
                  clear HA
                  simp only [laws_FnNetsSort.l1] at H
                  by_cases c25 : 0 ≤ x5_1
                  · rw [if_pos c25] at H
                    have c25b0 : decide (0 ≤ x5_1) = true := decide_eq_true c25
                    clear c25
                    by_cases c26 : x5_1 < (y162.length : Int)
                    · rw [if_pos c26] at H
                      have c26b0 : decide (x5_1 < (y162.length : Int)) = true := decide_eq_true c26
                      clear c26
                      by_cases c27 : x7_2 < ((rd_T28 y162 x5_1).f0)
                      · rw [if_pos c27] at H
                        have c27b0 : decide (x7_2 < ((rd_T28 y162 x5_1).f0)) = true := decide_eq_true c27
                        clear c27
                        replace H := Option.bind_eq_some_iff.mp H
                        obtain ⟨t171, A280, H⟩ := H
                        replace H : ((laws_pick.f k2 l0 (wrap64 (3 + (wrap64 (2 * x7_2)))) (wrap64 (1 + t171))).bind fun t172 => (if x6_2.length < 17592186044416 then (laws_FnNetsSort.l1 k2 l0 (rd y144 t147) y162 x5_1 (x6_2 ++ [t172]) (wrap64 (x7_2 + 1))) else (none))) = some r := H
                        have A28 := Aside0.mk A280
                        clear A280
                        replace H := Option.bind_eq_some_iff.mp H
                        obtain ⟨t172, A290, H⟩ := H
                        replace H : (if x6_2.length < 17592186044416 then (laws_FnNetsSort.l1 k2 l0 (rd y144 t147) y162 x5_1 (x6_2 ++ [t172]) (wrap64 (x7_2 + 1))) else (none)) = some r := H
                        have A29 := Aside0.mk A290
                        clear A290
                        by_cases c30 : x6_2.length < 17592186044416
                        · rw [if_pos c30] at H
                          have LMc30 := Aside0.mk c30
                          clear c30
                          obtain ⟨y173, hy173⟩ : ∃ y_ : List Int, y_ = (x6_2 ++ [t172]) := ⟨_, rfl⟩
                          replace H : (laws_FnNetsSort.l1 k2 l0 (rd y144 t147) y162 x5_1 y173 (wrap64 (x7_2 + 1))) = some r := by first | (rw [hy173]; with_reducible exact H) | (have H2_ := (Option.bind_some _ _).symm.trans H; rw [hy173]; with_reducible exact H2_) | (have H2_ := (Option.bind_some _ _).symm.trans H; with_reducible exact H2_) | with_reducible exact H | (rw [hy173]; exact H) | exact H
                          have Ny173 := Aside0.mk hy173
                          clear hy173
                          have H' := Aside0.mk H
                          clear H
                          obtain ⟨Ao31, co31, eo31⟩ := Kd.N_slice HO_4.out
                          subst eo31
                          have p170 : 0 ≤ (x5_1 : Int) := of_decide_eq_true (by first | (with_reducible assumption) | assumption)
                          have q170 : x5_1 < (y162.length : Int) := of_decide_eq_true (by first | (with_reducible assumption) | assumption)
                          obtain ⟨ad170, A170_1, c170_1, e170, hx170_0, hx170_1, hl170_1, hi170_1⟩ := at_T28 (Kd.N_reads' HO_4.out).2.2 x5_1 p170 q170
                          cases e170
                          obtain ⟨ce170, hce170, hMe170, hcc170⟩ := Kd.N_get HO_4.out z28 x5_1 p170 (by first | exact q170 | exact of_decide_eq_true (by first | (with_reducible assumption) | assumption) | (have e_ := (Kd.N_reads' HO_4.out).1; omega))
                          obtain ⟨ua170_1, uc170_1, rfl, ul170_1, ge170_1⟩ := k28_openF hMe170
                          have hv170_1 := hcc170 1 _ rfl
                          rw [add_field _ _ 1 (by omega)] at hv170_1
                          replace hv170_1 := Option.some.inj (hv170_1.symm.trans hx170_1)
                          injection hv170_1 with hva_ hvn_ hvc_
                          rw [hva_] at ge170_1
                          rw [hvc_] at ul170_1
                          have HL170_1 := Aside0.mk (show Kd.V k37 37 _ w.heap.size _ _ ((rd_T28 y162 x5_1).f1) from Kd.V_mk ul170_1 ge170_1)
                          clear hva_ hvn_ hvc_ ge170_1 ul170_1
                          clear hcc170 hce170
                          have HR170_1 := Aside0.mk hi170_1
                          have HC170_1 := Aside0.mk hl170_1
                          clear hi170_1 hl170_1
                          replace p170 := eq_true p170
                          replace q170 := eq_true q170
                          go_wp2_with (first | ((with_reducible refine gate_callee (f := 5) rfl ?_); refine goesL_ (some 46) rfl rfl Try.func5 (by kernel_rfl) rfl #[.slice A0 l0.length c0, .int .i64 5, .int .i64 300] rfl (by (try simp only [List.map_toArray, List.map_cons, List.map_nil]); first | done | rfl | (simp only [List.length_drop, List.length_take]; rfl)) ?_; (with_reducible refine (laws_pick.calls k2 _ _ l0 5 300 t171 _ ?side1 ?side2 A28.out).mono ?_); (case side1 => repeat (first | exact (Kd.C_below HR0.out HB.out) | (with_reducible refine Kd.C_alloc ?_ _) | (with_reducible refine Kd.C_drewN ?_ _) | (with_reducible refine Kd.C_drew ?_))); (case side2 => exact HC0.out); rintro e w' ⟨rfl, ⟨nd, rfl⟩⟩; refine ⟨_, rfl, ?_⟩) | ((with_reducible refine gate_callee (f := 5) rfl ?_); refine goesL_ (some 48) rfl rfl Try.func5 (by kernel_rfl) rfl #[.slice A0 l0.length c0, .int .i64 (wrap64 (3 + (wrap64 (2 * x7_2)))), .int .i64 (wrap64 (1 + t171))] rfl (by (try simp only [List.map_toArray, List.map_cons, List.map_nil]); first | done | rfl | (simp only [List.length_drop, List.length_take]; rfl)) ?_; (with_reducible refine (laws_pick.calls k2 _ _ l0 (wrap64 (3 + (wrap64 (2 * x7_2)))) (wrap64 (1 + t171)) t172 _ ?side1 ?side2 A29.out).mono ?_); (case side1 => repeat (first | exact (Kd.C_below HR0.out (by repeat (first | (with_reducible first | exact HB.out | apply below_alloc | apply pw_below_drewN | apply below_drew1) | exact HB.out))) | (with_reducible refine Kd.C_alloc ?_ _) | (with_reducible refine Kd.C_drewN ?_ _) | (with_reducible refine Kd.C_drew ?_))); (case side2 => exact HC0.out); rintro e w' ⟨rfl, ⟨nd, rfl⟩⟩; refine ⟨_, rfl, ?_⟩) | ((with_reducible refine gate_builtin (b := .append) (xs := #[.tmp 40, .tmp 49]) rfl ?_); (try (refine gate_guard (by rfl) ?_; dsimp only)); at_builtin; refine Kd.R_append (Kd.int .i64) (w0 := w) w.heap.size rfl (.tmp 40) (.tmp 49) 24 3 (.int .i64 0) 8 rfl Try.underlying24 info3 rfl (by decide) (by omega) u6 x6_2 t172 [.int .i64 t172] (fun _ => True) (fun _ => False) rfl rfl ?aP (fun _ hk => hk.elim) ?aF ?aO ?aB ?aS ?aL ?_; (case aP => exact rfl); (case aB => exact (by repeat (first | (with_reducible first | exact HB.out | apply below_alloc | apply pw_below_drewN | apply below_drew1) | exact HB.out))); (case aF => exact (fun _ _ => trivial)); (case aO => exact (by (with_reducible repeat (first | apply Kd.R_alloc | apply Kd.R_drewN | apply Kd.R_drew)); exact HO_6.out)); (case aS => exact (below_size (by repeat (first | (with_reducible first | exact HB.out | apply below_alloc | apply pw_below_drewN | apply below_drew1) | exact HB.out)))); (case aL => have := LMc30.out; omega); intro v174 w32 ho hb hg hat; rw [← Ny173.out] at ho; have n0_ := Aside0.mk (Kd.N_afterv (ok := (fun _ => True)) (by (with_reducible repeat (first | apply Kd.N_alloc | apply Kd.N_drewN | apply Kd.N_drew)); exact Kd.N_mono HO_4.out (fun _ hk => ⟨trivial, hk⟩)) hg hat); have n1_ := Aside0.mk (Kd.V_afterv (ok := (fun k_ => some k_ ≠ (.slice (some ad170) y162.length co31 : Value).ownBlock)) (by (with_reducible repeat (first | apply Kd.V_alloc | apply Kd.V_drewN | apply Kd.V_drew)); exact Kd.V_mono HL170_1.out (fun _ hk => by first | exact ⟨hk.2, hk.1⟩ | (simp only [hk, ne_eq, not_false_eq_true, and_self, and_true, true_and, implies_true]; done) | (simp [hk]; done))) hg hat); have n2_ := Aside0.mk (hb); have n3_ := Aside0.mk (ho); clear HO_4; clear HL170_1; clear HB; clear HO_6; have HO_4 := n0_; have HL170_1 := n1_; have HB := n2_; have HO175 := n3_; clear n0_ n1_ n2_ n3_; clear ho hb hg hat))
                          go_roundg k2
                          case measure => have := HK1.out; have := HK2.out; omega
                          case rel => exact ⟨(y173), (wrap64 (x7_2 + 1)), (by first | rfl | (simp; done) | (simp [*]; done)), H', ⟨by have := HK1.out; have := HK2.out; omega⟩, ⟨by (with_reducible repeat (first | apply Kd.N_alloc | apply Kd.N_drewN | apply Kd.N_drew)); exact Kd.N_mono HO_4.out (fun _ hk => by first | exact hk.2 | trivial | (simp only [hk, ne_eq, not_false_eq_true, and_self, and_true, true_and, implies_true]; done) | (simp [hk]; done))⟩, ⟨by (with_reducible repeat (first | apply Kd.R_alloc | apply Kd.R_drewN | apply Kd.R_drew)); exact HO175.out⟩, ⟨by repeat (first | (with_reducible first | exact HB.out | apply below_alloc | apply pw_below_drewN | apply below_drew1) | exact HB.out)⟩⟩
                        · rw [if_neg c30] at H
                          exact absurd H (by simp)
                      · rw [if_neg c27] at H
                        have c27b0 : decide (x7_2 < ((rd_T28 y162 x5_1).f0)) = false := decide_eq_false c27
                        clear c27
                        obtain ⟨y177, hy177⟩ : ∃ y_ : List Int, y_ = (([] : List Int)) := ⟨_, rfl⟩
                        replace H : (if y177.length + x6_2.length < 17592186044416 then ((impl_NetRun.f ((rd_T28 y162 x5_1).f0) ((rd_T28 y162 x5_1).f1) (y177 ++ x6_2)).bind fun t183 => (if (t183.length : Int) = (x6_2.length : Int) then (if (x6_2.length : Int) = 0 then (laws_FnNetsSort.j2 k2 l0 (rd y144 t147) y162 x5_1 x6_2 t183 true) else ((laws_sorted.f k2 t183).bind fun t186 => (if t186 = true then ((spec_NetOk.f k2 ((rd_T28 y162 x5_1).f0) ((rd_T28 y162 x5_1).f1)).bind fun t188 => (laws_FnNetsSort.j2 k2 l0 (rd y144 t147) y162 x5_1 x6_2 t183 (!t188))) else (laws_FnNetsSort.j2 k2 l0 (rd y144 t147) y162 x5_1 x6_2 t183 true)))) else (laws_FnNetsSort.j2 k2 l0 (rd y144 t147) y162 x5_1 x6_2 t183 true))) else (none)) = some r := by first | (rw [hy177]; with_reducible exact H) | (have H2_ := (Option.bind_some _ _).symm.trans H; rw [hy177]; with_reducible exact H2_) | (have H2_ := (Option.bind_some _ _).symm.trans H; with_reducible exact H2_) | with_reducible exact H | (rw [hy177]; exact H) | exact H
                        have Ny177 := Aside0.mk hy177
                        clear hy177
                        by_cases c33 : y177.length + x6_2.length < 17592186044416
                        · rw [if_pos c33] at H
                          have LMc33 := Aside0.mk c33
                          clear c33
                          obtain ⟨y180, hy180⟩ : ∃ y_ : List Int, y_ = (y177 ++ x6_2) := ⟨_, rfl⟩
                          replace H : ((impl_NetRun.f ((rd_T28 y162 x5_1).f0) ((rd_T28 y162 x5_1).f1) y180).bind fun t183 => (if (t183.length : Int) = (x6_2.length : Int) then (if (x6_2.length : Int) = 0 then (laws_FnNetsSort.j2 k2 l0 (rd y144 t147) y162 x5_1 x6_2 t183 true) else ((laws_sorted.f k2 t183).bind fun t186 => (if t186 = true then ((spec_NetOk.f k2 ((rd_T28 y162 x5_1).f0) ((rd_T28 y162 x5_1).f1)).bind fun t188 => (laws_FnNetsSort.j2 k2 l0 (rd y144 t147) y162 x5_1 x6_2 t183 (!t188))) else (laws_FnNetsSort.j2 k2 l0 (rd y144 t147) y162 x5_1 x6_2 t183 true)))) else (laws_FnNetsSort.j2 k2 l0 (rd y144 t147) y162 x5_1 x6_2 t183 true))) = some r := by first | (rw [hy180]; with_reducible exact H) | (have H2_ := (Option.bind_some _ _).symm.trans H; rw [hy180]; with_reducible exact H2_) | (have H2_ := (Option.bind_some _ _).symm.trans H; with_reducible exact H2_) | with_reducible exact H | (rw [hy180]; exact H) | exact H
                          have Ny180 := Aside0.mk hy180
                          clear hy180
                          replace H := Option.bind_eq_some_iff.mp H
                          obtain ⟨t183, A340, H⟩ := H
                          replace H : (if (t183.length : Int) = (x6_2.length : Int) then (if (x6_2.length : Int) = 0 then (laws_FnNetsSort.j2 k2 l0 (rd y144 t147) y162 x5_1 x6_2 t183 true) else ((laws_sorted.f k2 t183).bind fun t186 => (if t186 = true then ((spec_NetOk.f k2 ((rd_T28 y162 x5_1).f0) ((rd_T28 y162 x5_1).f1)).bind fun t188 => (laws_FnNetsSort.j2 k2 l0 (rd y144 t147) y162 x5_1 x6_2 t183 (!t188))) else (laws_FnNetsSort.j2 k2 l0 (rd y144 t147) y162 x5_1 x6_2 t183 true)))) else (laws_FnNetsSort.j2 k2 l0 (rd y144 t147) y162 x5_1 x6_2 t183 true)) = some r := H
                          have A34 := Aside0.mk A340
                          clear A340
                          have HC35 := Aside0.mk H
                          clear H
                          obtain ⟨Ao36, co36, eo36⟩ := Kd.N_slice HO_4.out
                          subst eo36
                          have p170 : 0 ≤ (x5_1 : Int) := of_decide_eq_true (by first | (with_reducible assumption) | assumption)
                          have q170 : x5_1 < (y162.length : Int) := of_decide_eq_true (by first | (with_reducible assumption) | assumption)
                          obtain ⟨ad170, A170_1, c170_1, e170, hx170_0, hx170_1, hl170_1, hi170_1⟩ := at_T28 (Kd.N_reads' HO_4.out).2.2 x5_1 p170 q170
                          cases e170
                          obtain ⟨ce170, hce170, hMe170, hcc170⟩ := Kd.N_get HO_4.out z28 x5_1 p170 (by first | exact q170 | exact of_decide_eq_true (by first | (with_reducible assumption) | assumption) | (have e_ := (Kd.N_reads' HO_4.out).1; omega))
                          obtain ⟨ua170_1, uc170_1, rfl, ul170_1, ge170_1⟩ := k28_openF hMe170
                          have hv170_1 := hcc170 1 _ rfl
                          rw [add_field _ _ 1 (by omega)] at hv170_1
                          replace hv170_1 := Option.some.inj (hv170_1.symm.trans hx170_1)
                          injection hv170_1 with hva_ hvn_ hvc_
                          rw [hva_] at ge170_1
                          rw [hvc_] at ul170_1
                          have HL170_1 := Aside0.mk (show Kd.V k37 37 _ w.heap.size _ _ ((rd_T28 y162 x5_1).f1) from Kd.V_mk ul170_1 ge170_1)
                          clear hva_ hvn_ hvc_ ge170_1 ul170_1
                          clear hcc170 hce170
                          have HR170_1 := Aside0.mk hi170_1
                          have HC170_1 := Aside0.mk hl170_1
                          clear hi170_1 hl170_1
                          replace p170 := eq_true p170
                          replace q170 := eq_true q170
                          try go_wp2
                          have n0_ := Aside0.mk (Kd.N_drew HO_4.out)
                          have n1_ := Aside0.mk (Kd.R_drew HO_6.out)
                          have n2_ := Aside0.mk (Kd.V_drew HL170_1.out)
                          have n3_ := Aside0.mk (Kd.C_drew HR170_1.out)
                          have n4_ := Aside0.mk (below_drew1 HB.out)
                          clear HO_4
                          clear HO_6
                          clear HL170_1
                          clear HR170_1
                          clear HB
                          have HO_4 := n0_
                          have HO_6 := n1_
                          have HL170_1 := n2_
                          have HR170_1 := n3_
                          have HB := n4_
                          clear n0_ n1_ n2_ n3_ n4_
                          have p176 : 0 ≤ (x5_1 : Int) := of_decide_eq_true (by first | (with_reducible assumption) | assumption)
                          have q176 : x5_1 < (y162.length : Int) := of_decide_eq_true (by first | (with_reducible assumption) | assumption)
                          obtain ⟨ad176, A176_1, c176_1, e176, hx176_0, hx176_1, hl176_1, hi176_1⟩ := at_T28 (Kd.N_reads' HO_4.out).2.2 x5_1 p176 q176
                          obtain rfl : ad170 = ad176 := (by injection e176)
                          obtain ⟨ce176, hce176, hMe176, hcc176⟩ := Kd.N_get HO_4.out z28 x5_1 p176 (by first | exact q176 | exact of_decide_eq_true (by first | (with_reducible assumption) | assumption) | (have e_ := (Kd.N_reads' HO_4.out).1; omega))
                          obtain ⟨ua176_1, uc176_1, rfl, ul176_1, ge176_1⟩ := k28_openF hMe176
                          have hv176_1 := hcc176 1 _ rfl
                          rw [add_field _ _ 1 (by omega)] at hv176_1
                          replace hv176_1 := Option.some.inj (hv176_1.symm.trans hx176_1)
                          injection hv176_1 with hva_ hvn_ hvc_
                          rw [hva_] at ge176_1
                          rw [hvc_] at ul176_1
                          have HL176_1 := Aside0.mk (show Kd.V k37 37 _ w.heap.size _ _ ((rd_T28 y162 x5_1).f1) from Kd.V_mk ul176_1 ge176_1)
                          clear hva_ hvn_ hvc_ ge176_1 ul176_1
                          clear hcc176 hce176
                          have HR176_1 := Aside0.mk hi176_1
                          have HC176_1 := Aside0.mk hl176_1
                          clear hi176_1 hl176_1
                          replace p176 := eq_true p176
                          replace q176 := eq_true q176
                          refine start_ (n := 9) (S := fun w' => w'.cell? (ad170.add ((x5_1).toNat * 2)) = some (.int .i64 ((rd_T28 y162 x5_1).f0)) ∧ w'.cell? ⟨(ad170.add ((x5_1).toNat * 2)).block, (ad170.add ((x5_1).toNat * 2)).off + 1, none⟩ = some (.slice A176_1 ((rd_T28 y162 x5_1).f1).length c176_1)) (ds := []) #[false, false, false, false, false, false, false, false, false] (by kernel_rfl) rfl rfl ⟨hx176_0, hx176_1⟩ (fun hHeld => ?_); refine with_tabW laws_FnNetsSort.tab13 laws_FnNetsSort.bits13 (fun HT_ HW_ => ?_)
                          generalize wr.drew = w37 at HO_4 HO_6 HL170_1 HR170_1 HB HL176_1 HR176_1 hx176_0 hx176_1 hHeld ⊢
                          refine pure_ (i := 0) (N := some 51) (v := ?_) (a' := ?_) #[true, false, false, false, false, false, false, false, false] rfl rfl (any_of HT_.out (by kernel_rfl)) (fun _ _ _ h => h) (Or.inl ⟨by rfl, ?_⟩) ?_ ?_
                          rotate_left
                          · intro w'
                            go_simp
                            with_reducible rfl
                          rotate_left
                          · simp only [Act.put, List.setIfInBounds_toArray, List.set_cons_zero, List.set_cons_succ, i64_w, i32_w]
                            rfl
                          refine pure_ (i := 1) (N := some 52) (v := ?_) (a' := ?_) #[true, true, false, false, false, false, false, false, false] rfl rfl (any_of HT_.out (by kernel_rfl)) (fun _ _ _ h => h) (Or.inl ⟨by rfl, ?_⟩) ?_ ?_
                          rotate_left
                          · intro w'
                            go_simp
                            with_reducible rfl
                          rotate_left
                          · simp only [Act.put, List.setIfInBounds_toArray, List.set_cons_zero, List.set_cons_succ, i64_w, i32_w]
                            rfl
                          refine pure_ (i := 2) (N := some 53) (v := ?_) (a' := ?_) #[true, true, true, false, false, false, false, false, false] rfl rfl (any_of HT_.out (by kernel_rfl)) (fun _ _ _ h => h) (Or.inl ⟨by rfl, ?_⟩) ?_ ?_
                          rotate_left
                          · intro w'
                            go_simp
                            with_reducible rfl
                          rotate_left
                          · simp only [Act.put, List.setIfInBounds_toArray, List.set_cons_zero, List.set_cons_succ, i64_w, i32_w]
                            rfl
                          refine pure_ (i := 5) (N := some 56) (v := ?_) (a' := ?_) #[true, true, true, false, false, true, false, false, false] rfl rfl (any_of HT_.out (by kernel_rfl)) (fun _ _ _ h => h) (Or.inl ⟨by rfl, ?_⟩) ?_ ?_
                          rotate_left
                          · intro w'
                            go_simp
                            with_reducible rfl
                          rotate_left
                          · simp only [Act.put, List.setIfInBounds_toArray, List.set_cons_zero, List.set_cons_succ, i64_w, i32_w]
                            rfl
                          refine take_ (i := 3) (N := some 54) (v := ?_) (a' := ?_) #[true, true, true, true, false, true, false, false, false] rfl rfl (take_ofW HT_.out HW_.out (by kernel_rfl)) (fun _ _ _ h => h) (Or.inl ⟨by rfl, ?_⟩) hHeld ?_ ?_
                          rotate_left
                          · rintro w' ⟨s0, s1⟩
                            go_simp
                            with_reducible rfl
                          rotate_left
                          · simp only [Act.put, List.setIfInBounds_toArray, List.set_cons_zero, List.set_cons_succ, i64_w, i32_w]
                            rfl
                          refine one_ (i := 4) (N := some 55) #[true, true, true, true, true, true, false, false, false] rfl rfl (one_of HT_.out (by kernel_rfl)) (by decide) (fun K hK => ?_)
                          refine Kd.R_lit_step (Kd.int .i64) _ 3 ?hg (N := 55) ?hd (xs := ([] : List Int)) (inner := []) (ok := fun _ => True) (okp := fun _ => True) ?hr ?hp (fun _ hk => hk) trivial (Below.refl _ _) (Nat.le_refl _) (by simp) ?_; (case hd => rfl); (case hg => rfl); (case hr => first | (go_simp; done) | (go_simp; rfl)); (case hp => exact (Reps.none _ _))
                          intro v178 w38 ho39 hb hg_ hnew_
                          have HS0_ := (hb.cell (World.block_lt_of_cell? _ _ (hHeld.1))).trans (hHeld.1)
                          have HS1_ := (hb.cell (World.block_lt_of_cell? _ _ (hHeld.2))).trans (hHeld.2)
                          clear hg_ hnew_
                          (first | rw [← Ny177.out] at ho39 | (simp only [Int.reduceToNat] at ho39; rw [← Ny177.out] at ho39))
                          have n0_ := Aside0.mk (Kd.N_elder' (by (with_reducible repeat (first | apply Kd.N_alloc | apply Kd.N_drewN | apply Kd.N_drew)); exact HO_4.out) (Kd.R_base ho39) hb)
                          have n1_ := Aside0.mk (Kd.R_elder' (by (with_reducible repeat (first | apply Kd.R_alloc | apply Kd.R_drewN | apply Kd.R_drew)); exact HO_6.out) (Kd.R_base ho39) hb)
                          have n2_ := Aside0.mk (Kd.V_elder' (by (with_reducible repeat (first | apply Kd.V_alloc | apply Kd.V_drewN | apply Kd.V_drew)); exact HL170_1.out) (Kd.R_base ho39) hb)
                          have n3_ := Aside0.mk (Kd.V_elder' (by (with_reducible repeat (first | apply Kd.V_alloc | apply Kd.V_drewN | apply Kd.V_drew)); exact HL176_1.out) (Kd.R_base ho39) hb)
                          have n4_ := Aside0.mk (Kd.R_lower (Kd.R_new' ho39 (Kd.R_lt (by (with_reducible repeat (first | apply Kd.R_alloc | apply Kd.R_drewN | apply Kd.R_drew)); exact HO_6.out))) (below_size (by repeat (first | (with_reducible first | exact HB.out | apply below_alloc | apply pw_below_drewN | apply below_drew1) | exact HB.out))))
                          have n5_ := Aside0.mk (Kd.C_below (by repeat (first | (with_reducible exact HR170_1.out) | (with_reducible refine Kd.C_alloc ?_ _) | (with_reducible refine Kd.C_drewN ?_ _) | (with_reducible refine Kd.C_drew ?_) | exact HR170_1.out)) hb)
                          have n6_ := Aside0.mk (Kd.C_below (by repeat (first | (with_reducible exact HR176_1.out) | (with_reducible refine Kd.C_alloc ?_ _) | (with_reducible refine Kd.C_drewN ?_ _) | (with_reducible refine Kd.C_drew ?_) | exact HR176_1.out)) hb)
                          have n7_ := Aside0.mk (below_step (by repeat (first | (with_reducible first | exact HB.out | apply below_alloc | apply pw_below_drewN | apply below_drew1) | exact HB.out)) hb)
                          clear HO_4
                          clear HO_6
                          clear HL170_1
                          clear HL176_1
                          clear HR170_1
                          clear HR176_1
                          clear HB
                          have HO_4 := n0_
                          have HO_6 := n1_
                          have HL170_1 := n2_
                          have HL176_1 := n3_
                          have HO179 := n4_
                          have HR170_1 := n5_
                          have HR176_1 := n6_
                          have HB := n7_
                          clear n0_ n1_ n2_ n3_ n4_ n5_ n6_ n7_
                          clear hb ho39
                          obtain ⟨Ao41, co41, eo41⟩ := Kd.R_slice HO_6.out
                          (first | subst eo41 | (injection eo41 with f1_ f2_ f3_; have f4_ := f1_.symm; have f5_ := f3_.symm; clear f1_ f2_ f3_; subst f4_; subst f5_))
                          refine hK.out _ _ ⟨HS0_, HS1_⟩ (fun hHeld => ?_)
                          clear hK K
                          refine norm_ (a' := ?_) ?_ ?_
                          rotate_left
                          · show Act.put _ (some 55) _ = _
                            simp only [Act.put, List.setIfInBounds_toArray, List.set_cons_zero, List.set_cons_succ, i64_w, i32_w]
                            rfl
                          refine one_ (i := 6) (N := some 57) #[true, true, true, true, true, true, true, false, false] rfl rfl (one_of HT_.out (by kernel_rfl)) (by decide) (fun K hK => ?_)
                          refine Kd.R_append_rows_step (Kd.int .i64) (w0 := w) w.heap.size (by rfl) (.tmp 55) (.tmp 56) 24 3 (.int .i64 0) 8 rfl Try.underlying24 info3 rfl (by decide) (by omega) v178 y177 x6_2 _ _ _ (fun k_ => some k_ ≠ (.slice Ao41 x6_2.length co41 : Value).ownBlock) (fun _ => False) rfl rfl ?aO ?aR (fun _ _ h => h) (fun _ h => h.elim) ?aF ?aB ?aS ?aL ?_
                          (case aR => repeat (first | exact (Kd.R_reads' HO_6.out).2.2 | (with_reducible refine Kd.C_alloc ?_ _) | (with_reducible refine Kd.C_drewN ?_ _) | (with_reducible refine Kd.C_drew ?_)))
                          (case aB => exact (by repeat (first | (with_reducible first | exact HB.out | apply below_alloc | apply pw_below_drewN | apply below_drew1) | exact HB.out)))
                          (case aF => exact (fun k_ hk => Kd.fresh' (Kd.R_lt (by (with_reducible repeat (first | apply Kd.R_alloc | apply Kd.R_drewN | apply Kd.R_drew)); exact HO_6.out)) k_ hk))
                          (case aO => exact (by (with_reducible repeat (first | apply Kd.R_alloc | apply Kd.R_drewN | apply Kd.R_drew)); exact Kd.R_mono HO179.out (fun _ hk => by first | exact hk.2 | trivial | (simp only [hk, ne_eq, not_false_eq_true, and_self, and_true, true_and, implies_true]; done) | (simp [hk]; done))))
                          (case aS => exact (below_size (by repeat (first | (with_reducible first | exact HB.out | apply below_alloc | apply pw_below_drewN | apply below_drew1) | exact HB.out))))
                          (case aL => have := LMc33.out; omega)
                          intro v181 w40 ho hb hg hat
                          have HS0_ := cell_grown hg (hHeld.1) (by first | (rw [add_block]; exact (HO_4.out.1 _ rfl).2) | (show some (Addr.add _ _).block ≠ _; rw [add_block]; exact (HO_4.out.1 _ rfl).2) | exact (HO_4.out.1 _ rfl).2)
                          have HS1_ := cell_grown hg (hHeld.2) (by first | (rw [add_block]; exact (HO_4.out.1 _ rfl).2) | (show some (Addr.add _ _).block ≠ _; rw [add_block]; exact (HO_4.out.1 _ rfl).2) | exact (HO_4.out.1 _ rfl).2)
                          rw [← Ny180.out] at ho
                          have n0_ := Aside0.mk (Kd.N_afterv (ok := (fun k_ => some k_ ≠ (.slice Ao41 x6_2.length co41 : Value).ownBlock)) (by (with_reducible repeat (first | apply Kd.N_alloc | apply Kd.N_drewN | apply Kd.N_drew)); exact HO_4.out) hg hat)
                          have n1_ := Aside0.mk (Kd.R_after (ok := (fun _ => True)) (by (with_reducible repeat (first | apply Kd.R_alloc | apply Kd.R_drewN | apply Kd.R_drew)); exact HO_6.out) hg hat)
                          have n2_ := Aside0.mk (Kd.V_afterv (ok := (fun k_ => some k_ ≠ (.slice (some ad170) y162.length co36 : Value).ownBlock ∧ some k_ ≠ (.slice Ao41 x6_2.length co41 : Value).ownBlock)) (by (with_reducible repeat (first | apply Kd.V_alloc | apply Kd.V_drewN | apply Kd.V_drew)); exact Kd.V_mono HL170_1.out (fun _ hk => ⟨⟨hk.1.2, hk.1.1⟩, hk.2⟩)) hg hat)
                          have n3_ := Aside0.mk (Kd.V_afterv (ok := (fun k_ => some k_ ≠ (.slice (some ad170) y162.length co36 : Value).ownBlock ∧ some k_ ≠ (.slice Ao41 x6_2.length co41 : Value).ownBlock)) (by (with_reducible repeat (first | apply Kd.V_alloc | apply Kd.V_drewN | apply Kd.V_drew)); exact Kd.V_mono HL176_1.out (fun _ hk => ⟨⟨hk.1.2, hk.1.1⟩, hk.2⟩)) hg hat)
                          have n4_ := Aside0.mk (hb)
                          have n5_ := Aside0.mk (ho)
                          clear HO_4
                          clear HO_6
                          clear HL170_1
                          clear HL176_1
                          clear HB
                          clear HO179
                          have HO_4 := n0_
                          have HO_6 := n1_
                          have HL170_1 := n2_
                          have HL176_1 := n3_
                          have HB := n4_
                          have HO182 := n5_
                          clear n0_ n1_ n2_ n3_ n4_ n5_
                          clear ho hb hg hat
                          obtain ⟨Ao42, co42, eo42⟩ := Kd.R_slice HO182.out
                          (first | subst eo42 | (injection eo42 with f1_ f2_ f3_; have f4_ := f1_.symm; have f5_ := f3_.symm; clear f1_ f2_ f3_; subst f4_; subst f5_))
                          refine hK.out _ _ ⟨HS0_, HS1_⟩ (fun hHeld => ?_)
                          clear hK K
                          refine norm_ (a' := ?_) ?_ ?_
                          rotate_left
                          · show Act.put _ (some 57) _ = _
                            simp only [Act.put, List.setIfInBounds_toArray, List.set_cons_zero, List.set_cons_succ, i64_w, i32_w]
                            rfl
                          refine one_ (i := 7) (N := some 58) #[true, true, true, true, true, true, true, true, false] rfl rfl (one_of HT_.out (by kernel_rfl)) (by decide) (fun K hK => ?_)
                          refine goes_ Try.func9 (by kernel_rfl) rfl #[.agg #[.int .i64 ((rd_T28 y162 x5_1).f0), .slice A176_1 ((rd_T28 y162 x5_1).f1).length c176_1], .slice Ao42 y180.length co42] (by rfl) rfl rfl (by (try simp only [List.map_toArray, List.map_cons, List.map_nil]); first | done | rfl | (simp only [List.length_drop, List.length_take]; rfl)) ?_
                          with_reducible refine (impl_NetRun.calls ((rd_T28 y162 x5_1).f0) _ _ ((rd_T28 y162 x5_1).f1) _ _ y180 t183 _ ?side1 ?side2 ?side3 ?side4 A34.out).mono ?_
                          (case side1 => repeat (first | exact ((Kd.V_reads' (by (with_reducible repeat (first | apply Kd.V_alloc | apply Kd.V_drewN | apply Kd.V_drew)); exact HL176_1.out)).2.2) | (with_reducible refine Kd.C_alloc ?_ _) | (with_reducible refine Kd.C_drewN ?_ _) | (with_reducible refine Kd.C_drew ?_)))
                          (case side2 => exact HC176_1.out)
                          (case side3 => repeat (first | exact (Kd.R_reads' HO182.out).2.2 | (with_reducible refine Kd.C_alloc ?_ _) | (with_reducible refine Kd.C_drewN ?_ _) | (with_reducible refine Kd.C_drew ?_)))
                          (case side4 => exact (Kd.R_reads' HO182.out).2.1)
                          rintro e w43 ⟨v184, rfl, ho0, hb⟩
                          have HS0_ := (hb.cell (World.block_lt_of_cell? _ _ (hHeld.1))).trans (hHeld.1)
                          have HS1_ := (hb.cell (World.block_lt_of_cell? _ _ (hHeld.2))).trans (hHeld.2)
                          refine ⟨_, rfl, ?_⟩
                          have n0_ := Aside0.mk (Kd.N_elder' (by (with_reducible repeat (first | apply Kd.N_alloc | apply Kd.N_drewN | apply Kd.N_drew)); exact HO_4.out) (Kd.R_base ho0) hb)
                          have n1_ := Aside0.mk (Kd.R_elder' (by (with_reducible repeat (first | apply Kd.R_alloc | apply Kd.R_drewN | apply Kd.R_drew)); exact HO_6.out) (Kd.R_base ho0) hb)
                          have n2_ := Aside0.mk (Kd.V_elder' (by (with_reducible repeat (first | apply Kd.V_alloc | apply Kd.V_drewN | apply Kd.V_drew)); exact HL170_1.out) (Kd.R_base ho0) hb)
                          have n3_ := Aside0.mk (Kd.V_elder' (by (with_reducible repeat (first | apply Kd.V_alloc | apply Kd.V_drewN | apply Kd.V_drew)); exact HL176_1.out) (Kd.R_base ho0) hb)
                          have n4_ := Aside0.mk (Kd.R_elder' (by (with_reducible repeat (first | apply Kd.R_alloc | apply Kd.R_drewN | apply Kd.R_drew)); exact HO182.out) (Kd.R_base ho0) hb)
                          have n5_ := Aside0.mk (Kd.R_lower (Kd.R_new' (Kd.R_new' ho0 (Kd.R_lt (by (with_reducible repeat (first | apply Kd.R_alloc | apply Kd.R_drewN | apply Kd.R_drew)); exact HO_6.out))) (Kd.R_lt (by (with_reducible repeat (first | apply Kd.R_alloc | apply Kd.R_drewN | apply Kd.R_drew)); exact HO182.out))) (below_size (by repeat (first | (with_reducible first | exact HB.out | apply below_alloc | apply pw_below_drewN | apply below_drew1) | exact HB.out))))
                          have n6_ := Aside0.mk (below_step (by repeat (first | (with_reducible first | exact HB.out | apply below_alloc | apply pw_below_drewN | apply below_drew1) | exact HB.out)) hb)
                          clear HO_4
                          clear HO_6
                          clear HL170_1
                          clear HL176_1
                          clear HO182
                          clear HB
                          have HO_4 := n0_
                          have HO_6 := n1_
                          have HL170_1 := n2_
                          have HL176_1 := n3_
                          have HO182 := n4_
                          have HO185 := n5_
                          have HB := n6_
                          clear n0_ n1_ n2_ n3_ n4_ n5_ n6_
                          (try clear hb)
                          (try clear hb2)
                          (try clear hk)
                          (try clear hi)
                          (try clear ho0)
                          refine hK.out _ _ ⟨HS0_, HS1_⟩ (fun hHeld => ?_)
                          clear hK K
                          refine norm_ (a' := ?_) ?_ ?_
                          rotate_left
                          · show Act.put _ (some 58) _ = _
                            simp only [Act.put, List.setIfInBounds_toArray, List.set_cons_zero, List.set_cons_succ, i64_w, i32_w]
                            rfl
                          refine pure_ (i := 8) (N := some 8) (v := ?_) (a' := ?_) #[true, true, true, true, true, true, true, true, true] rfl rfl (any_of HT_.out (by kernel_rfl)) (fun _ _ _ h => h) (Or.inl ⟨by rfl, ?_⟩) ?_ ?_
                          rotate_left
                          · intro w'
                            go_simp
                            with_reducible rfl
                          rotate_left
                          · simp only [Act.put, List.setIfInBounds_toArray, List.set_cons_zero, List.set_cons_succ, i64_w, i32_w]
                            rfl
                          refine done_ (done_of HT_.out (by kernel_rfl)) ?_
                          go_upto_region 14 with (fail)
                          go_cut [81] (fun v81 wc => ∃ (kq : Nat) (x81_34 : Bool), v81 = .bool x81_34 ∧ Aside0 (laws_FnNetsSort.j2 kq l0 (rd y144 t147) y162 x5_1 x6_2 t183 x81_34 = some r) ∧ Aside0 (kq ≤ k2) ∧ Aside0 (Kd.N k28 28 wc w.heap.size (fun k_ => some k_ ≠ ((.slice Ao41 x6_2.length co41) : Value).ownBlock ∧ some k_ ≠ (v184 : Value).ownBlock) (.slice (some ad170) y162.length co36) y162) ∧ Aside0 (Kd.R (Kd.int .i64) 3 wc w.heap.size (fun k_ => some k_ ≠ (v184 : Value).ownBlock) (.slice Ao41 x6_2.length co41) x6_2) ∧ Aside0 (Kd.R (Kd.int .i64) 3 wc w.heap.size (fun k_ => some k_ ≠ ((.slice Ao41 x6_2.length co41) : Value).ownBlock) v184 t183) ∧ Aside0 (Below w.heap.size w wc))
                          case first =>
                            have H := HC35.out
                            clear HC35
                            by_cases c44 : (t183.length : Int) = (x6_2.length : Int)
                            · rw [if_pos c44] at H
                              have c44b0 : ((t183.length : Int) == (x6_2.length : Int)) = true := beq_iff_eq.mpr c44
                              have c44b1 : ((t183.length : Int) != (x6_2.length : Int)) = false := bne_eq_false_iff_eq.mpr c44
                              have c44b2 : (t183.length == x6_2.length) = true := by first | simpa using c44 | (simp at c44 ⊢; omega)
                              clear c44
                              (first | rw [c44b0] | (simp only [i64_w, i32_w]; rw [c44b0]) | skip)
                              by_cases c45 : (x6_2.length : Int) = 0
                              · rw [if_pos c45] at H
                                have c45b0 : ((x6_2.length : Int) == 0) = true := beq_iff_eq.mpr c45
                                have c45b1 : ((x6_2.length : Int) != 0) = false := bne_eq_false_iff_eq.mpr c45
                                clear c45
                                have H' := Aside0.mk H
                                clear H
                                obtain ⟨Ao46, co46, eo46⟩ := Kd.R_slice HO185.out
                                subst eo46
                                go_wp2
                                go_meet
                                case rel => exact ⟨_, (true), (by first | rfl | (simp; done) | (simp [*]; done)), H', ⟨by have := HK1.out; have := HK2.out; first | omega | exact Nat.le_refl _⟩, ⟨by (with_reducible repeat (first | apply Kd.N_alloc | apply Kd.N_drewN | apply Kd.N_drew)); exact Kd.N_mono HO_4.out (fun _ hk => by first | exact ⟨hk.1.1, hk.2⟩ | (simp only [hk, ne_eq, not_false_eq_true, and_self, and_true, true_and, implies_true]; done) | (simp [hk]; done))⟩, ⟨by (with_reducible repeat (first | apply Kd.R_alloc | apply Kd.R_drewN | apply Kd.R_drew)); exact Kd.R_mono HO_6.out (fun _ hk => by first | exact hk.2 | trivial | (simp only [hk, ne_eq, not_false_eq_true, and_self, and_true, true_and, implies_true]; done) | (simp [hk]; done))⟩, ⟨by (with_reducible repeat (first | apply Kd.R_alloc | apply Kd.R_drewN | apply Kd.R_drew)); exact Kd.R_mono HO185.out (fun _ hk => by first | exact hk.1.2 | trivial | (simp only [hk, ne_eq, not_false_eq_true, and_self, and_true, true_and, implies_true]; done) | (simp [hk]; done))⟩, ⟨by repeat (first | (with_reducible first | exact HB.out | apply below_alloc | apply pw_below_drewN | apply below_drew1) | exact HB.out)⟩⟩
                              · rw [if_neg c45] at H
                                have c45b0 : ((x6_2.length : Int) == 0) = false := beq_eq_false_iff_ne.mpr c45
                                have c45b1 : ((x6_2.length : Int) != 0) = true := bne_iff_ne.mpr c45
                                have c45b2 : ¬ (x6_2 = []) := fun h_ => c45 (by rw [h_]; rfl)
                                replace H := Option.bind_eq_some_iff.mp H
                                obtain ⟨t186, A470, H⟩ := H
                                replace H : (if t186 = true then ((spec_NetOk.f k2 ((rd_T28 y162 x5_1).f0) ((rd_T28 y162 x5_1).f1)).bind fun t188 => (laws_FnNetsSort.j2 k2 l0 (rd y144 t147) y162 x5_1 x6_2 t183 (!t188))) else (laws_FnNetsSort.j2 k2 l0 (rd y144 t147) y162 x5_1 x6_2 t183 true)) = some r := H
                                have A47 := Aside0.mk A470
                                clear A470
                                by_cases c48 : t186 = true
                                · subst c48
                                  have H1 : ((spec_NetOk.f k2 ((rd_T28 y162 x5_1).f0) ((rd_T28 y162 x5_1).f1)).bind fun t188 => (laws_FnNetsSort.j2 k2 l0 (rd y144 t147) y162 x5_1 x6_2 t183 (!t188))) = some r := by rw [if_pos rfl] at H; exact H
                                  clear H
                                  have H := H1
                                  clear H1
                                  replace H := Option.bind_eq_some_iff.mp H
                                  obtain ⟨t188, A490, H⟩ := H
                                  replace H : (laws_FnNetsSort.j2 k2 l0 (rd y144 t147) y162 x5_1 x6_2 t183 (!t188)) = some r := H
                                  have A49 := Aside0.mk A490
                                  clear A490
                                  have H' := Aside0.mk H
                                  clear H
                                  obtain ⟨Ao50, co50, eo50⟩ := Kd.R_slice HO185.out
                                  subst eo50
                                  go_wp2_with (first | (go_at_call 10; (with_reducible refine (laws_sorted.calls k2 _ _ t183 true _ ?side1 ?side2 A47.out).mono ?_); (case side1 => repeat (first | exact (Kd.R_reads' HO185.out).2.2 | (with_reducible refine Kd.C_alloc ?_ _) | (with_reducible refine Kd.C_drewN ?_ _) | (with_reducible refine Kd.C_drew ?_))); (case side2 => exact (Kd.R_reads' HO185.out).2.1); rintro e w' ⟨rfl, ⟨nd, rfl⟩⟩; (try clear hHeld); (try clear HS0_); (try clear HS1_); have p187 : 0 ≤ (x5_1 : Int) := of_decide_eq_true (by first | (with_reducible assumption) | assumption); have q187 : x5_1 < (y162.length : Int) := of_decide_eq_true (by first | (with_reducible assumption) | assumption); obtain ⟨ad187, A187_1, c187_1, e187, hx187_0, hx187_1, hl187_1, hi187_1⟩ := at_T28 (Kd.N_reads' HO_4.out).2.2 x5_1 p187 q187; obtain rfl : ad170 = ad187 := (by injection e187); obtain ⟨ce187, hce187, hMe187, hcc187⟩ := Kd.N_get HO_4.out z28 x5_1 p187 (by first | exact q187 | exact of_decide_eq_true (by first | (with_reducible assumption) | assumption) | (have e_ := (Kd.N_reads' HO_4.out).1; omega)); obtain ⟨ua187_1, uc187_1, rfl, ul187_1, ge187_1⟩ := k28_openF hMe187; have hv187_1 := hcc187 1 _ rfl; rw [add_field _ _ 1 (by omega)] at hv187_1; replace hv187_1 := Option.some.inj (hv187_1.symm.trans hx187_1); injection hv187_1 with hva_ hvn_ hvc_; rw [hva_] at ge187_1; rw [hvc_] at ul187_1; have HL187_1 := Aside0.mk (show Kd.V k37 37 _ w.heap.size _ _ ((rd_T28 y162 x5_1).f1) from Kd.V_mk ul187_1 ge187_1); clear hva_ hvn_ hvc_ ge187_1 ul187_1; clear hcc187 hce187; have HR187_1 := Aside0.mk hi187_1; have HC187_1 := Aside0.mk hl187_1; clear hi187_1 hl187_1; replace p187 := eq_true p187; replace q187 := eq_true q187) | (go_at_call 11; (with_reducible refine (spec_NetOk.calls k2 ((rd_T28 y162 x5_1).f0) _ _ ((rd_T28 y162 x5_1).f1) t188 _ ?side1 ?side2 A49.out).mono ?_); (case side1 => repeat (first | exact (by repeat (first | (with_reducible exact HR187_1.out) | (with_reducible refine Kd.C_alloc ?_ _) | (with_reducible refine Kd.C_drewN ?_ _) | (with_reducible refine Kd.C_drew ?_) | exact HR187_1.out)) | (with_reducible refine Kd.C_alloc ?_ _) | (with_reducible refine Kd.C_drewN ?_ _) | (with_reducible refine Kd.C_drew ?_))); (case side2 => exact HC187_1.out); rintro e w51 ⟨rfl, hb⟩; have n0_ := Aside0.mk (Kd.N_below (by (with_reducible repeat (first | apply Kd.N_alloc | apply Kd.N_drewN | apply Kd.N_drew)); exact HO_4.out) hb); have n1_ := Aside0.mk (Kd.R_below (by (with_reducible repeat (first | apply Kd.R_alloc | apply Kd.R_drewN | apply Kd.R_drew)); exact HO_6.out) hb); have n2_ := Aside0.mk (Kd.V_below (by (with_reducible repeat (first | apply Kd.V_alloc | apply Kd.V_drewN | apply Kd.V_drew)); exact HL170_1.out) hb); have n3_ := Aside0.mk (Kd.V_below (by (with_reducible repeat (first | apply Kd.V_alloc | apply Kd.V_drewN | apply Kd.V_drew)); exact HL176_1.out) hb); have n4_ := Aside0.mk (Kd.R_below (by (with_reducible repeat (first | apply Kd.R_alloc | apply Kd.R_drewN | apply Kd.R_drew)); exact HO182.out) hb); have n5_ := Aside0.mk (Kd.R_below (by (with_reducible repeat (first | apply Kd.R_alloc | apply Kd.R_drewN | apply Kd.R_drew)); exact HO185.out) hb); have n6_ := Aside0.mk (Kd.V_below (by (with_reducible repeat (first | apply Kd.V_alloc | apply Kd.V_drewN | apply Kd.V_drew)); exact HL187_1.out) hb); have n7_ := Aside0.mk (Kd.C_below (by repeat (first | (with_reducible exact HR187_1.out) | (with_reducible refine Kd.C_alloc ?_ _) | (with_reducible refine Kd.C_drewN ?_ _) | (with_reducible refine Kd.C_drew ?_) | exact HR187_1.out)) hb); have n8_ := Aside0.mk (below_step (by repeat (first | (with_reducible first | exact HB.out | apply below_alloc | apply pw_below_drewN | apply below_drew1) | exact HB.out)) hb); clear HO_4; clear HO_6; clear HL170_1; clear HL176_1; clear HO182; clear HO185; clear HL187_1; clear HR187_1; clear HB; have HO_4 := n0_; have HO_6 := n1_; have HL170_1 := n2_; have HL176_1 := n3_; have HO182 := n4_; have HO185 := n5_; have HL187_1 := n6_; have HR187_1 := n7_; have HB := n8_; clear n0_ n1_ n2_ n3_ n4_ n5_ n6_ n7_ n8_; (try clear hb); (try clear hb2); (try clear hk); (try clear hi)))
                                  go_meet
                                  case rel => exact ⟨_, (!t188), (by first | rfl | (simp; done) | (simp [*]; done)), H', ⟨by have := HK1.out; have := HK2.out; first | omega | exact Nat.le_refl _⟩, ⟨by (with_reducible repeat (first | apply Kd.N_alloc | apply Kd.N_drewN | apply Kd.N_drew)); exact Kd.N_mono HO_4.out (fun _ hk => by first | exact ⟨hk.1.1, hk.2⟩ | (simp only [hk, ne_eq, not_false_eq_true, and_self, and_true, true_and, implies_true]; done) | (simp [hk]; done))⟩, ⟨by (with_reducible repeat (first | apply Kd.R_alloc | apply Kd.R_drewN | apply Kd.R_drew)); exact Kd.R_mono HO_6.out (fun _ hk => by first | exact hk.2 | trivial | (simp only [hk, ne_eq, not_false_eq_true, and_self, and_true, true_and, implies_true]; done) | (simp [hk]; done))⟩, ⟨by (with_reducible repeat (first | apply Kd.R_alloc | apply Kd.R_drewN | apply Kd.R_drew)); exact Kd.R_mono HO185.out (fun _ hk => by first | exact hk.1.2 | trivial | (simp only [hk, ne_eq, not_false_eq_true, and_self, and_true, true_and, implies_true]; done) | (simp [hk]; done))⟩, ⟨by repeat (first | (with_reducible first | exact HB.out | apply below_alloc | apply pw_below_drewN | apply below_drew1) | exact HB.out)⟩⟩
                                · replace c48 := Bool.eq_false_iff.mpr c48
                                  subst c48
                                  have H1 : (laws_FnNetsSort.j2 k2 l0 (rd y144 t147) y162 x5_1 x6_2 t183 true) = some r := by rw [if_neg (show ¬ (false = true) by decide)] at H; exact H
                                  clear H
                                  have H := H1
                                  clear H1
                                  have H' := Aside0.mk H
                                  clear H
                                  obtain ⟨Ao52, co52, eo52⟩ := Kd.R_slice HO185.out
                                  subst eo52
                                  go_wp2_with (first | (go_at_call 10; (with_reducible refine (laws_sorted.calls k2 _ _ t183 false _ ?side1 ?side2 A47.out).mono ?_); (case side1 => repeat (first | exact (Kd.R_reads' HO185.out).2.2 | (with_reducible refine Kd.C_alloc ?_ _) | (with_reducible refine Kd.C_drewN ?_ _) | (with_reducible refine Kd.C_drew ?_))); (case side2 => exact (Kd.R_reads' HO185.out).2.1); rintro e w' ⟨rfl, ⟨nd, rfl⟩⟩))
                                  go_meet
                                  case rel => exact ⟨_, (true), (by first | rfl | (simp; done) | (simp [*]; done)), H', ⟨by have := HK1.out; have := HK2.out; first | omega | exact Nat.le_refl _⟩, ⟨by (with_reducible repeat (first | apply Kd.N_alloc | apply Kd.N_drewN | apply Kd.N_drew)); exact Kd.N_mono HO_4.out (fun _ hk => by first | exact ⟨hk.1.1, hk.2⟩ | (simp only [hk, ne_eq, not_false_eq_true, and_self, and_true, true_and, implies_true]; done) | (simp [hk]; done))⟩, ⟨by (with_reducible repeat (first | apply Kd.R_alloc | apply Kd.R_drewN | apply Kd.R_drew)); exact Kd.R_mono HO_6.out (fun _ hk => by first | exact hk.2 | trivial | (simp only [hk, ne_eq, not_false_eq_true, and_self, and_true, true_and, implies_true]; done) | (simp [hk]; done))⟩, ⟨by (with_reducible repeat (first | apply Kd.R_alloc | apply Kd.R_drewN | apply Kd.R_drew)); exact Kd.R_mono HO185.out (fun _ hk => by first | exact hk.1.2 | trivial | (simp only [hk, ne_eq, not_false_eq_true, and_self, and_true, true_and, implies_true]; done) | (simp [hk]; done))⟩, ⟨by repeat (first | (with_reducible first | exact HB.out | apply below_alloc | apply pw_below_drewN | apply below_drew1) | exact HB.out)⟩⟩
                            · rw [if_neg c44] at H
                              have c44b0 : ((t183.length : Int) == (x6_2.length : Int)) = false := beq_eq_false_iff_ne.mpr c44
                              have c44b1 : ((t183.length : Int) != (x6_2.length : Int)) = true := bne_iff_ne.mpr c44
                              have c44b2 : (t183.length == x6_2.length) = false := by first | simpa using c44 | (simp at c44 ⊢; omega)
                              (first | rw [c44b0] | (simp only [i64_w, i32_w]; rw [c44b0]) | skip)
                              have H' := Aside0.mk H
                              clear H
                              obtain ⟨Ao53, co53, eo53⟩ := Kd.R_slice HO185.out
                              subst eo53
                              go_wp2
                              go_meet
                              case rel => exact ⟨_, (true), (by first | rfl | (simp; done) | (simp [*]; done)), H', ⟨by have := HK1.out; have := HK2.out; first | omega | exact Nat.le_refl _⟩, ⟨by (with_reducible repeat (first | apply Kd.N_alloc | apply Kd.N_drewN | apply Kd.N_drew)); exact Kd.N_mono HO_4.out (fun _ hk => by first | exact ⟨hk.1.1, hk.2⟩ | (simp only [hk, ne_eq, not_false_eq_true, and_self, and_true, true_and, implies_true]; done) | (simp [hk]; done))⟩, ⟨by (with_reducible repeat (first | apply Kd.R_alloc | apply Kd.R_drewN | apply Kd.R_drew)); exact Kd.R_mono HO_6.out (fun _ hk => by first | exact hk.2 | trivial | (simp only [hk, ne_eq, not_false_eq_true, and_self, and_true, true_and, implies_true]; done) | (simp [hk]; done))⟩, ⟨by (with_reducible repeat (first | apply Kd.R_alloc | apply Kd.R_drewN | apply Kd.R_drew)); exact Kd.R_mono HO185.out (fun _ hk => by first | exact hk.1.2 | trivial | (simp only [hk, ne_eq, not_false_eq_true, and_self, and_true, true_and, implies_true]; done) | (simp [hk]; done))⟩, ⟨by repeat (first | (with_reducible first | exact HB.out | apply below_alloc | apply pw_below_drewN | apply below_drew1) | exact HB.out)⟩⟩
                          case rest =>
                            clear HC35
                            try clear c1
                            try clear p1
                            try clear q1
                            try clear hx1
                            try clear c2
                            try clear p2
                            try clear c3
                            try clear c4
                            try clear c5
                            try clear c5b0
                            try clear c6
                            try clear c6b0
                            try clear p6
                            try clear c7
                            try clear c8
                            try clear c9
                            try clear p14
                            try clear q14
                            try clear hx14
                            try clear c17
                            try clear p17
                            try clear q17
                            try clear hx17
                            try clear c18
                            try clear p18
                            try clear q18
                            try clear hx18
                            try clear c22
                            try clear c22b0
                            try clear c25
                            try clear c25b0
                            try clear c26
                            try clear c26b0
                            try clear c27
                            try clear c27b0
                            try clear c30
                            try clear c33
                            try clear c44
                            try clear c44b0
                            try clear c44b1
                            try clear c44b2
                            try clear c45
                            try clear c45b0
                            try clear c45b1
                            try clear c45b2
                            try clear c48
                            try clear hx148_0
                            try clear hx170_0
                            try clear hx170_1
                            try clear hx176_0
                            try clear hx176_1
                            try clear hx187_0
                            try clear hx187_1
                            try clear p1
                            try clear p14
                            try clear p148
                            try clear p170
                            try clear p176
                            try clear p187
                            try clear p2
                            try clear p6
                            try clear q1
                            try clear q14
                            try clear q148
                            try clear q170
                            try clear q176
                            try clear q187
                            obtain ⟨kq, x81_34, rfl, HA, HJ34, HO_4, HO_6, HO_8, HB⟩ := hcut
                            cases kq with
                            | zero => exact absurd HA.out (by simp [laws_FnNetsSort.j2])
                            | succ kj34 =>
                              have H := HA.out
                              clear HA
                              simp only [laws_FnNetsSort.j2] at H
                              by_cases c54 : x81_34 = true
                              · subst c54
                                have H1 : (some false) = some r := by rw [if_pos rfl] at H; exact H
                                clear H
                                have H := H1
                                clear H1
                                exact absurd ((Option.some.inj H).trans HTRUE_.out) (by decide)
                              · replace c54 := Bool.eq_false_iff.mpr c54
                                subst c54
                                have H1 : (laws_FnNetsSort.l2 kj34 l0 (rd y144 t147) y162 x5_1 x6_2 t183 0) = some r := by rw [if_neg (show ¬ (false = true) by decide)] at H; exact H
                                clear H
                                have H := H1
                                clear H1
                                have H' := Aside0.mk H
                                clear H
                                go_wp2
                                go_loopg [9] kj34 (fun kq v9 w' => ∃ (x9_4 : Int), v9 = .int .i64 x9_4 ∧ Aside0 (laws_FnNetsSort.l2 kq l0 (rd y144 t147) y162 x5_1 x6_2 t183 x9_4 = some r) ∧ Aside0 (kq ≤ kj34) ∧ Aside0 (Kd.N k28 28 w' w.heap.size (fun k_ => some k_ ≠ ((.slice Ao41 x6_2.length co41) : Value).ownBlock ∧ some k_ ≠ (v184 : Value).ownBlock) (.slice (some ad170) y162.length co36) y162) ∧ Aside0 (Kd.R (Kd.int .i64) 3 w' w.heap.size (fun k_ => some k_ ≠ (v184 : Value).ownBlock) (.slice Ao41 x6_2.length co41) x6_2) ∧ Aside0 (Kd.R (Kd.int .i64) 3 w' w.heap.size (fun k_ => some k_ ≠ ((.slice Ao41 x6_2.length co41) : Value).ownBlock) v184 t183) ∧ Aside0 (Below w.heap.size w w'))
                                case atStart => exact ⟨(0), (by first | rfl | (simp; done) | (simp [*]; done)), H', ⟨Nat.le_refl _⟩, ⟨by (with_reducible repeat (first | apply Kd.N_alloc | apply Kd.N_drewN | apply Kd.N_drew)); exact HO_4.out⟩, ⟨by (with_reducible repeat (first | apply Kd.R_alloc | apply Kd.R_drewN | apply Kd.R_drew)); exact HO_6.out⟩, ⟨by (with_reducible repeat (first | apply Kd.R_alloc | apply Kd.R_drewN | apply Kd.R_drew)); exact HO_8.out⟩, ⟨by repeat (first | (with_reducible first | exact HB.out | apply below_alloc | apply pw_below_drewN | apply below_drew1) | exact HB.out)⟩⟩
                                case round =>
                                  clear H'
                                  try clear c1
                                  try clear p1
                                  try clear q1
                                  try clear hx1
                                  try clear c2
                                  try clear p2
                                  try clear c3
                                  try clear c4
                                  try clear c5
                                  try clear c5b0
                                  try clear c6
                                  try clear c6b0
                                  try clear p6
                                  try clear c7
                                  try clear c8
                                  try clear c9
                                  try clear p14
                                  try clear q14
                                  try clear hx14
                                  try clear c17
                                  try clear p17
                                  try clear q17
                                  try clear hx17
                                  try clear c18
                                  try clear p18
                                  try clear q18
                                  try clear hx18
                                  try clear c22
                                  try clear c22b0
                                  try clear c25
                                  try clear c25b0
                                  try clear c26
                                  try clear c26b0
                                  try clear c27
                                  try clear c27b0
                                  try clear c30
                                  try clear c33
                                  try clear c44
                                  try clear c44b0
                                  try clear c44b1
                                  try clear c44b2
                                  try clear c45
                                  try clear c45b0
                                  try clear c45b1
                                  try clear c45b2
                                  try clear c48
                                  try clear c54
                                  try clear hx148_0
                                  try clear hx170_0
                                  try clear hx170_1
                                  try clear hx176_0
                                  try clear hx176_1
                                  try clear hx187_0
                                  try clear hx187_1
                                  try clear p1
                                  try clear p14
                                  try clear p148
                                  try clear p17
                                  try clear p170
                                  try clear p176
                                  try clear p18
                                  try clear p187
                                  try clear p2
                                  try clear p6
                                  try clear q1
                                  try clear q14
                                  try clear q148
                                  try clear q17
                                  try clear q170
                                  try clear q176
                                  try clear q18
                                  try clear q187
                                  obtain ⟨x9_4, rfl, HA, HK4, HO_4, HO_6, HO_8, HB⟩ := hrel
                                  cases gk with
                                  | zero => exact absurd HA.out (by simp [laws_FnNetsSort.l2])
                                  | succ k4 =>
                                    have H := HA.out
                                    clear HA
                                    simp only [laws_FnNetsSort.l2] at H
                                    by_cases c55 : x9_4 < (x6_2.length : Int)
                                    · rw [if_pos c55] at H
                                      have c55b0 : decide (x9_4 < (x6_2.length : Int)) = true := decide_eq_true c55
                                      clear c55
                                      by_cases c56 : 0 ≤ x9_4
                                      · rw [if_pos c56] at H
                                        have c56b0 : decide (0 ≤ x9_4) = true := decide_eq_true c56
                                        clear c56
                                        replace H := Option.bind_eq_some_iff.mp H
                                        obtain ⟨t190, A570, H⟩ := H
                                        replace H : ((laws_counts.f k4 x6_2 (rd x6_2 x9_4)).bind fun t192 => (if t190 = t192 then (laws_FnNetsSort.l2 k4 l0 (rd y144 t147) y162 x5_1 x6_2 t183 (wrap64 (x9_4 + 1))) else (some false))) = some r := H
                                        have A57 := Aside0.mk A570
                                        clear A570
                                        replace H := Option.bind_eq_some_iff.mp H
                                        obtain ⟨t192, A580, H⟩ := H
                                        replace H : (if t190 = t192 then (laws_FnNetsSort.l2 k4 l0 (rd y144 t147) y162 x5_1 x6_2 t183 (wrap64 (x9_4 + 1))) else (some false)) = some r := H
                                        have A58 := Aside0.mk A580
                                        clear A580
                                        by_cases c59 : t190 = t192
                                        · rw [if_pos c59] at H
                                          have c59b0 : (t190 == t192) = true := beq_iff_eq.mpr c59
                                          have c59b1 : (t190 != t192) = false := bne_eq_false_iff_eq.mpr c59
                                          clear c59
                                          have H' := Aside0.mk H
                                          clear H
                                          try go_wp2
                                          have n0_ := Aside0.mk (Kd.N_drew HO_4.out)
                                          have n1_ := Aside0.mk (Kd.R_drew HO_6.out)
                                          have n2_ := Aside0.mk (Kd.R_drew HO_8.out)
                                          have n3_ := Aside0.mk (below_drew1 HB.out)
                                          clear HO_4
                                          clear HO_6
                                          clear HO_8
                                          clear HB
                                          have HO_4 := n0_
                                          have HO_6 := n1_
                                          have HO_8 := n2_
                                          have HB := n3_
                                          clear n0_ n1_ n2_ n3_
                                          have p189 : 0 ≤ (x9_4 : Int) := of_decide_eq_true (by first | (with_reducible assumption) | assumption)
                                          have q189 : x9_4 < (x6_2.length : Int) := of_decide_eq_true (by first | (with_reducible assumption) | assumption)
                                          obtain ⟨Aq189, cq189, eq189⟩ := Kd.R_slice HO_6.out
                                          first | subst eq189 | clear eq189
                                          obtain ⟨ad189, e189, hx189_0⟩ := Kd.at_int (Kd.R_reads' HO_6.out).2.2 x9_4 p189 q189
                                          cases e189
                                          replace p189 := eq_true p189
                                          replace q189 := eq_true q189
                                          have p191 : 0 ≤ (x9_4 : Int) := of_decide_eq_true (by first | (with_reducible assumption) | assumption)
                                          have q191 : x9_4 < (x6_2.length : Int) := of_decide_eq_true (by first | (with_reducible assumption) | assumption)
                                          obtain ⟨ad191, e191, hx191_0⟩ := Kd.at_int (Kd.R_reads' HO_6.out).2.2 x9_4 p191 q191
                                          obtain rfl : ad189 = ad191 := (by injection e191)
                                          replace p191 := eq_true p191
                                          replace q191 := eq_true q191
                                          obtain ⟨Ao61, co61, eo61⟩ := Kd.R_slice HO_8.out
                                          (first | subst eo61 | (injection eo61 with f1_ f2_ f3_; have f4_ := f1_.symm; have f5_ := f3_.symm; clear f1_ f2_ f3_; subst f4_; subst f5_))
                                          refine start_ (n := 13) (S := fun w' => w'.cell? (ad189.add (x9_4).toNat) = some (.int .i64 (rd x6_2 x9_4)) ∧ w'.cell? (ad189.add (x9_4).toNat) = some (.int .i64 (rd x6_2 x9_4))) (ds := []) #[false, false, false, false, false, false, false, false, false, false, false, false, false] (by kernel_rfl) rfl rfl ⟨hx189_0, hx191_0⟩ (fun hHeld => ?_); refine with_tabW laws_FnNetsSort.tab19 laws_FnNetsSort.bits19 (fun HT_ HW_ => ?_)
                                          generalize wr.drew = w60 at HO_4 HO_6 HO_8 HB hx189_0 hx191_0 hHeld ⊢
                                          refine pure_ (i := 0) (N := some 88) (v := ?_) (a' := ?_) #[true, false, false, false, false, false, false, false, false, false, false, false, false] rfl rfl (any_of HT_.out (by kernel_rfl)) (fun _ _ _ h => h) (Or.inl ⟨by rfl, ?_⟩) ?_ ?_
                                          rotate_left
                                          · intro w'
                                            go_simp
                                            with_reducible rfl
                                          rotate_left
                                          · simp only [Act.put, List.setIfInBounds_toArray, List.set_cons_zero, List.set_cons_succ, i64_w, i32_w]
                                            rfl
                                          refine pure_ (i := 1) (N := some 89) (v := ?_) (a' := ?_) #[true, true, false, false, false, false, false, false, false, false, false, false, false] rfl rfl (any_of HT_.out (by kernel_rfl)) (fun _ _ _ h => h) (Or.inl ⟨by rfl, ?_⟩) ?_ ?_
                                          rotate_left
                                          · intro w'
                                            go_simp
                                            with_reducible rfl
                                          rotate_left
                                          · simp only [Act.put, List.setIfInBounds_toArray, List.set_cons_zero, List.set_cons_succ, i64_w, i32_w]
                                            rfl
                                          refine pure_ (i := 2) (N := some 90) (v := ?_) (a' := ?_) #[true, true, true, false, false, false, false, false, false, false, false, false, false] rfl rfl (any_of HT_.out (by kernel_rfl)) (fun _ _ _ h => h) (Or.inl ⟨by rfl, ?_⟩) ?_ ?_
                                          rotate_left
                                          · intro w'
                                            go_simp
                                            with_reducible rfl
                                          rotate_left
                                          · simp only [Act.put, List.setIfInBounds_toArray, List.set_cons_zero, List.set_cons_succ, i64_w, i32_w]
                                            rfl
                                          refine pure_ (i := 3) (N := some 91) (v := ?_) (a' := ?_) #[true, true, true, true, false, false, false, false, false, false, false, false, false] rfl rfl (any_of HT_.out (by kernel_rfl)) (fun _ _ _ h => h) (Or.inl ⟨by rfl, ?_⟩) ?_ ?_
                                          rotate_left
                                          · intro w'
                                            go_simp
                                            with_reducible rfl
                                          rotate_left
                                          · simp only [Act.put, List.setIfInBounds_toArray, List.set_cons_zero, List.set_cons_succ, i64_w, i32_w]
                                            rfl
                                          refine pure_ (i := 6) (N := some 94) (v := ?_) (a' := ?_) #[true, true, true, true, false, false, true, false, false, false, false, false, false] rfl rfl (any_of HT_.out (by kernel_rfl)) (fun _ _ _ h => h) (Or.inl ⟨by rfl, ?_⟩) ?_ ?_
                                          rotate_left
                                          · intro w'
                                            go_simp
                                            with_reducible rfl
                                          rotate_left
                                          · simp only [Act.put, List.setIfInBounds_toArray, List.set_cons_zero, List.set_cons_succ, i64_w, i32_w]
                                            rfl
                                          refine pure_ (i := 7) (N := some 95) (v := ?_) (a' := ?_) #[true, true, true, true, false, false, true, true, false, false, false, false, false] rfl rfl (any_of HT_.out (by kernel_rfl)) (fun _ _ _ h => h) (Or.inl ⟨by rfl, ?_⟩) ?_ ?_
                                          rotate_left
                                          · intro w'
                                            go_simp
                                            with_reducible rfl
                                          rotate_left
                                          · simp only [Act.put, List.setIfInBounds_toArray, List.set_cons_zero, List.set_cons_succ, i64_w, i32_w]
                                            rfl
                                          refine pure_ (i := 8) (N := some 96) (v := ?_) (a' := ?_) #[true, true, true, true, false, false, true, true, true, false, false, false, false] rfl rfl (any_of HT_.out (by kernel_rfl)) (fun _ _ _ h => h) (Or.inl ⟨by rfl, ?_⟩) ?_ ?_
                                          rotate_left
                                          · intro w'
                                            go_simp
                                            with_reducible rfl
                                          rotate_left
                                          · simp only [Act.put, List.setIfInBounds_toArray, List.set_cons_zero, List.set_cons_succ, i64_w, i32_w]
                                            rfl
                                          refine pure_ (i := 9) (N := some 97) (v := ?_) (a' := ?_) #[true, true, true, true, false, false, true, true, true, true, false, false, false] rfl rfl (any_of HT_.out (by kernel_rfl)) (fun _ _ _ h => h) (Or.inl ⟨by rfl, ?_⟩) ?_ ?_
                                          rotate_left
                                          · intro w'
                                            go_simp
                                            with_reducible rfl
                                          rotate_left
                                          · simp only [Act.put, List.setIfInBounds_toArray, List.set_cons_zero, List.set_cons_succ, i64_w, i32_w]
                                            rfl
                                          refine take_ (i := 4) (N := some 92) (v := ?_) (a' := ?_) #[true, true, true, true, true, false, true, true, true, true, false, false, false] rfl rfl (take_ofW HT_.out HW_.out (by kernel_rfl)) (fun _ _ _ h => h) (Or.inl ⟨by rfl, ?_⟩) hHeld ?_ ?_
                                          rotate_left
                                          · rintro w' ⟨s0, s1⟩
                                            go_simp
                                            with_reducible rfl
                                          rotate_left
                                          · simp only [Act.put, List.setIfInBounds_toArray, List.set_cons_zero, List.set_cons_succ, i64_w, i32_w]
                                            rfl
                                          refine take_ (i := 10) (N := some 98) (v := ?_) (a' := ?_) #[true, true, true, true, true, false, true, true, true, true, true, false, false] rfl rfl (take_ofW HT_.out HW_.out (by kernel_rfl)) (fun _ _ _ h => h) (Or.inl ⟨by rfl, ?_⟩) hHeld ?_ ?_
                                          rotate_left
                                          · rintro w' ⟨s0, s1⟩
                                            go_simp
                                            with_reducible rfl
                                          rotate_left
                                          · simp only [Act.put, List.setIfInBounds_toArray, List.set_cons_zero, List.set_cons_succ, i64_w, i32_w]
                                            rfl
                                          refine one_ (i := 5) (N := some 93) #[true, true, true, true, true, true, true, true, true, true, true, false, false] rfl rfl (one_of HT_.out (by kernel_rfl)) (by decide) (fun K hK => ?_)
                                          refine goes_ Try.func12 (by kernel_rfl) rfl #[.slice Ao61 t183.length co61, .int .i64 (rd x6_2 x9_4)] (by rfl) rfl rfl (by (try simp only [List.map_toArray, List.map_cons, List.map_nil]); first | done | rfl | (simp only [List.length_drop, List.length_take]; rfl)) ?_
                                          with_reducible refine (laws_counts.calls k4 _ _ t183 (rd x6_2 x9_4) t190 _ ?side1 ?side2 A57.out).mono ?_
                                          (case side1 => repeat (first | exact (Kd.R_reads' HO_8.out).2.2 | (with_reducible refine Kd.C_alloc ?_ _) | (with_reducible refine Kd.C_drewN ?_ _) | (with_reducible refine Kd.C_drew ?_)))
                                          (case side2 => exact (Kd.R_reads' HO_8.out).2.1)
                                          rintro e w' ⟨rfl, ⟨nd, rfl⟩⟩
                                          refine ⟨_, rfl, ?_⟩
                                          refine hK.out _ _ ⟨hHeld.1, hHeld.2⟩ (fun hHeld => ?_)
                                          clear hK K
                                          refine norm_ (a' := ?_) ?_ ?_
                                          rotate_left
                                          · show Act.put _ (some 93) _ = _
                                            simp only [Act.put, List.setIfInBounds_toArray, List.set_cons_zero, List.set_cons_succ, i64_w, i32_w]
                                            rfl
                                          refine one_ (i := 11) (N := some 99) #[true, true, true, true, true, true, true, true, true, true, true, true, false] rfl rfl (one_of HT_.out (by kernel_rfl)) (by decide) (fun K hK => ?_)
                                          refine goes_ Try.func12 (by kernel_rfl) rfl #[.slice (some ad189) x6_2.length co41, .int .i64 (rd x6_2 x9_4)] (by rfl) rfl rfl (by (try simp only [List.map_toArray, List.map_cons, List.map_nil]); first | done | rfl | (simp only [List.length_drop, List.length_take]; rfl)) ?_
                                          with_reducible refine (laws_counts.calls k4 _ _ x6_2 (rd x6_2 x9_4) t192 _ ?side1 ?side2 A58.out).mono ?_
                                          (case side1 => repeat (first | exact (Kd.R_reads' HO_6.out).2.2 | (with_reducible refine Kd.C_alloc ?_ _) | (with_reducible refine Kd.C_drewN ?_ _) | (with_reducible refine Kd.C_drew ?_)))
                                          (case side2 => exact (Kd.R_reads' HO_6.out).2.1)
                                          rintro e w' ⟨rfl, ⟨nd, rfl⟩⟩
                                          refine ⟨_, rfl, ?_⟩
                                          refine hK.out _ _ ⟨hHeld.1, hHeld.2⟩ (fun hHeld => ?_)
                                          clear hK K
                                          refine norm_ (a' := ?_) ?_ ?_
                                          rotate_left
                                          · show Act.put _ (some 99) _ = _
                                            simp only [Act.put, List.setIfInBounds_toArray, List.set_cons_zero, List.set_cons_succ, i64_w, i32_w]
                                            rfl
                                          refine pure_ (i := 12) (N := some 100) (v := ?_) (a' := ?_) #[true, true, true, true, true, true, true, true, true, true, true, true, true] rfl rfl (any_of HT_.out (by kernel_rfl)) (fun _ _ _ h => h) (Or.inl ⟨by rfl, ?_⟩) ?_ ?_
                                          rotate_left
                                          · intro w'
                                            go_simp
                                            with_reducible rfl
                                          rotate_left
                                          · simp only [Act.put, List.setIfInBounds_toArray, List.set_cons_zero, List.set_cons_succ, i64_w, i32_w]
                                            rfl
                                          refine done_ (done_of HT_.out (by kernel_rfl)) ?_
                                          try go_wp2
                                          go_roundg k4
                                          case measure => have := HK1.out; have := HK2.out; have := HJ34.out; have := HK4.out; omega
                                          case rel => exact ⟨(wrap64 (x9_4 + 1)), (by first | rfl | (simp; done) | (simp [*]; done)), H', ⟨by have := HK1.out; have := HK2.out; have := HJ34.out; have := HK4.out; omega⟩, ⟨by (with_reducible repeat (first | apply Kd.N_alloc | apply Kd.N_drewN | apply Kd.N_drew)); exact HO_4.out⟩, ⟨by (with_reducible repeat (first | apply Kd.R_alloc | apply Kd.R_drewN | apply Kd.R_drew)); exact HO_6.out⟩, ⟨by (with_reducible repeat (first | apply Kd.R_alloc | apply Kd.R_drewN | apply Kd.R_drew)); exact HO_8.out⟩, ⟨by repeat (first | (with_reducible first | exact HB.out | apply below_alloc | apply pw_below_drewN | apply below_drew1) | exact HB.out)⟩⟩
                                        · rw [if_neg c59] at H
                                          have c59b0 : (t190 == t192) = false := beq_eq_false_iff_ne.mpr c59
                                          have c59b1 : (t190 != t192) = true := bne_iff_ne.mpr c59
                                          exact absurd ((Option.some.inj H).trans HTRUE_.out) (by decide)
                                      · rw [if_neg c56] at H
                                        exact absurd H (by simp)
                                    · rw [if_neg c55] at H
                                      have c55b0 : decide (x9_4 < (x6_2.length : Int)) = false := decide_eq_false c55
                                      clear c55
                                      have H' := Aside0.mk H
                                      clear H
                                      go_wp2
                                      go_roundg k4
                                      case measure => have := HK1.out; have := HK2.out; have := HJ34.out; have := HK4.out; omega
                                      case rel => exact ⟨(wrap64 (x5_1 + 1)), (by first | rfl | (simp; done) | (simp [*]; done)), H', ⟨by have := HK1.out; have := HK2.out; have := HJ34.out; have := HK4.out; omega⟩, ⟨by (with_reducible repeat (first | apply Kd.N_alloc | apply Kd.N_drewN | apply Kd.N_drew)); exact Kd.N_mono HO_4.out (fun _ hk => trivial)⟩, ⟨by repeat (first | (with_reducible first | exact HB.out | apply below_alloc | apply pw_below_drewN | apply below_drew1) | exact HB.out)⟩⟩
                        · rw [if_neg c33] at H
                          exact absurd H (by simp)
                    · rw [if_neg c26] at H
                      exact absurd H (by simp)
                  · rw [if_neg c25] at H
                    exact absurd H (by simp)
            · rw [if_neg c22] at H
              have c22b0 : decide (x5_1 < 3) = false := decide_eq_false c22
              clear c22
              by_cases c62 : 0 < (y162.length : Int)
              · rw [if_pos c62] at H
                have c62b0 : decide (0 < (y162.length : Int)) = true := decide_eq_true c62
                have c62b1 : decide (0 < y162.length) = true := decide_eq_true (by omega)
                clear c62
                by_cases c63 : ((rd_T28 y162 0).f0) = (rd y144 t147)
                · rw [if_pos c63] at H
                  have c63b0 : (((rd_T28 y162 0).f0) == (rd y144 t147)) = true := beq_iff_eq.mpr c63
                  have c63b1 : (((rd_T28 y162 0).f0) != (rd y144 t147)) = false := bne_eq_false_iff_eq.mpr c63
                  clear c63
                  by_cases c64 : 1 < (y162.length : Int)
                  · rw [if_pos c64] at H
                    have c64b0 : decide (1 < (y162.length : Int)) = true := decide_eq_true c64
                    have c64b1 : decide (1 < y162.length) = true := decide_eq_true (by omega)
                    clear c64
                    obtain rfl := Option.some.inj H
                    obtain ⟨Ao65, co65, eo65⟩ := Kd.N_slice HO_4.out
                    subst eo65
                    have p165 : 0 ≤ (0 : Int) := (by omega)
                    have q165 : 0 < (y162.length : Int) := of_decide_eq_true (by first | (with_reducible assumption) | assumption)
                    obtain ⟨ad165, A165_1, c165_1, e165, hx165_0, hx165_1, hl165_1, hi165_1⟩ := at_T28 (Kd.N_reads' HO_4.out).2.2 0 p165 q165
                    cases e165
                    obtain ⟨ce165, hce165, hMe165, hcc165⟩ := Kd.N_get HO_4.out z28 0 p165 (by first | exact q165 | exact of_decide_eq_true (by first | (with_reducible assumption) | assumption) | (have e_ := (Kd.N_reads' HO_4.out).1; omega))
                    obtain ⟨ua165_1, uc165_1, rfl, ul165_1, ge165_1⟩ := k28_openF hMe165
                    have hv165_1 := hcc165 1 _ rfl
                    rw [add_field _ _ 1 (by omega)] at hv165_1
                    replace hv165_1 := Option.some.inj (hv165_1.symm.trans hx165_1)
                    injection hv165_1 with hva_ hvn_ hvc_
                    rw [hva_] at ge165_1
                    rw [hvc_] at ul165_1
                    have HL165_1 := Aside0.mk (show Kd.V k37 37 _ w.heap.size _ _ ((rd_T28 y162 0).f1) from Kd.V_mk ul165_1 ge165_1)
                    clear hva_ hvn_ hvc_ ge165_1 ul165_1
                    clear hcc165 hce165
                    have qi165 : (0 < y162.length) = True := eq_true (by omega)
                    (try rw [show ((0 : Int)).toNat = 0 from rfl] at hx165_0)
                    (try rw [show 0 * 2 = 0 from rfl] at hx165_0)
                    (try rw [Addr.add_zero'] at hx165_0)
                    (try rw [show ((0 : Int)).toNat = 0 from rfl] at hx165_1)
                    (try rw [show 0 * 2 = 0 from rfl] at hx165_1)
                    (try rw [Addr.add_zero'] at hx165_1)
                    have HR165_1 := Aside0.mk hi165_1
                    have HC165_1 := Aside0.mk hl165_1
                    clear hi165_1 hl165_1
                    replace p165 := eq_true p165
                    replace q165 := eq_true q165
                    have p166 : 0 ≤ (1 : Int) := (by omega)
                    have q166 : 1 < (y162.length : Int) := of_decide_eq_true (by first | (with_reducible assumption) | assumption)
                    obtain ⟨ad166, A166_1, c166_1, e166, hx166_0, hx166_1, hl166_1, hi166_1⟩ := at_T28 (Kd.N_reads' HO_4.out).2.2 1 p166 q166
                    obtain rfl : ad165 = ad166 := (by injection e166)
                    obtain ⟨ce166, hce166, hMe166, hcc166⟩ := Kd.N_get HO_4.out z28 1 p166 (by first | exact q166 | exact of_decide_eq_true (by first | (with_reducible assumption) | assumption) | (have e_ := (Kd.N_reads' HO_4.out).1; omega))
                    obtain ⟨ua166_1, uc166_1, rfl, ul166_1, ge166_1⟩ := k28_openF hMe166
                    have hv166_1 := hcc166 1 _ rfl
                    rw [add_field _ _ 1 (by omega)] at hv166_1
                    replace hv166_1 := Option.some.inj (hv166_1.symm.trans hx166_1)
                    injection hv166_1 with hva_ hvn_ hvc_
                    rw [hva_] at ge166_1
                    rw [hvc_] at ul166_1
                    have HL166_1 := Aside0.mk (show Kd.V k37 37 _ w.heap.size _ _ ((rd_T28 y162 1).f1) from Kd.V_mk ul166_1 ge166_1)
                    clear hva_ hvn_ hvc_ ge166_1 ul166_1
                    clear hcc166 hce166
                    (try simp only [show (1 : Int).toNat = 1 from rfl, Nat.reduceMul, Nat.reduceEqDiff, Go.Addr.add, ↓reduceIte] at hx166_0)
                    (try simp only [show (1 : Int).toNat = 1 from rfl, Nat.reduceMul, Nat.reduceEqDiff, Go.Addr.add, ↓reduceIte] at hx166_1)
                    have qi166 : (1 < y162.length) = True := eq_true (by omega)
                    (try rw [show ((1 : Int)).toNat = 1 from rfl] at hx166_0)
                    (try rw [show 1 * 2 = 2 from rfl] at hx166_0)
                    (try rw [show ((1 : Int)).toNat = 1 from rfl] at hx166_1)
                    (try rw [show 1 * 2 = 2 from rfl] at hx166_1)
                    have HR166_1 := Aside0.mk hi166_1
                    have HC166_1 := Aside0.mk hl166_1
                    clear hi166_1 hl166_1
                    replace p166 := eq_true p166
                    replace q166 := eq_true q166
                    go_wp2
                    go_ret
                    exact ⟨by first | rfl | (simp [errW_none, errW_some] <;> rfl) | (simp [*, errW_none, errW_some] <;> rfl), by repeat (first | (with_reducible first | exact HB.out | apply below_alloc | apply pw_below_drewN | apply below_drew1) | exact HB.out)⟩
                  · rw [if_neg c64] at H
                    exact absurd H (by simp)
                · rw [if_neg c63] at H
                  have c63b0 : (((rd_T28 y162 0).f0) == (rd y144 t147)) = false := beq_eq_false_iff_ne.mpr c63
                  have c63b1 : (((rd_T28 y162 0).f0) != (rd y144 t147)) = true := bne_iff_ne.mpr c63
                  exact absurd ((Option.some.inj H).trans HTRUE_.out) (by decide)
              · rw [if_neg c62] at H
                exact absurd H (by simp)
      · rw [if_neg c6] at H
        exact absurd H (by simp)
    · rw [if_neg c5] at H
      exact absurd H (by simp)

/-- THE ONE PURE STATEMENT of laws_FnNetsSort: yours. -/
def laws_FnNetsSort.Pure : Prop := ∀ (l0 : List Int), l0.length ≤ maxLen → l0.length * 1 ≤ 140737488351232 → (∀ x ∈ l0, (Lit.int .u8 x).wf = true) → ∃ k, laws_FnNetsSort.f k l0 = some true
theorem laws_FnNetsSort.walk (P : laws_FnNetsSort.Pure) (a0 : Option Addr) (len0 cap0 : Nat) (z0 : List Int) (w : World) (w0 : (a0 = none ∧ len0 = 0 ∧ cap0 = 0 ∧ z0 = []) ∨ ∃ x, a0 = some x ∧ len0 ≤ cap0 ∧ cap0 ≤ maxLen ∧ z0.length = cap0 ∧ (∀ i, i < z0.length → w.cell? (x.add i) = some (.int .u8 (z0.getD i 0))) ∧ ∀ n ∈ z0, (Lit.int .u8 n).wf = true) (y0 : len0 * 1 ≤ 140737488351232) :
    Calls Try.prog 3 #[.slice a0 len0 cap0] w fun e w' => e = .returned (.bool true) ∧ Below w.heap.size w w' := by
  obtain ⟨l0, rfl, hr0, hm0, hw0, hc0⟩ := ReadsInt.ofRowC w0
  obtain ⟨k, h⟩ := P l0 hm0 y0 hw0
  refine (laws_FnNetsSort.calls k _ _ l0 true w (Kd.C_of_reads (d := (0 : Int)) (h1 := fun _ => rfl) hr0) hc0 h).mono ?_
  rintro e w' ⟨rfl, hd⟩
  exact ⟨rfl, hd⟩

end Go.Proofs.Ytgjigcngopljaaa.PFnNetsSort

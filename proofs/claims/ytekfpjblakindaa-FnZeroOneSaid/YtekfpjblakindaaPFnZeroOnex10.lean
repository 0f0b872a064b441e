-- Laid by a program of this session: what the print of the kit writes, and contracts of the session where the print takes no function. Lean checks it.
import Derived.Test.YtekfpjblakindaaPFnZeroOnex0
import Derived.Test.YtekfpjblakindaaPFnZeroOnex1
import Derived.Test.YtekfpjblakindaaPFnZeroOnex2
import Derived.Test.YtekfpjblakindaaPFnZeroOnex7
import Derived.Test.YtekfpjblakindaaPFnZeroOnex8
import Derived.Test.YtekfpjblakindaaPFnZeroOnex9
namespace Go.Proofs.Ytekfpjblakindaa.PFnZeroOne
open Go.RowKit Go.Proofs.YtekfpjblakindaaW.PrintWords Go.Proofs.YtekfpjblakindaaW.PrintLast Go.Proofs.YtekfpjblakindaaW.PrintMore
attribute [local go_sem] max2_int min2_int max_two min_two max_three min_three max_four min_four   -- for this text's walks alone
set_option linter.unusedVariables false
set_option linter.unusedSimpArgs false

/-! ### laws_FnZeroOne: function 6 -/
mutual
def laws_FnZeroOne.j0 : Nat → List Int → List Int → Bool → Int → List (S55) → Option (Bool)
  | 0, _, _, _, _, _ => none
  | k + 1, x0, x5, x27, x375000, x375001 => if x27 = true then ((impl_NetSorts.f k x375000 x375001).bind fun t384 => (if t384 = true then (some false) else ((impl_NetFault.f k x375000 x375001).bind fun t385 => (some ((t385.length : Int) == 0))))) else (laws_FnZeroOne.l0 k x0 x5 x375000 x375001)
def laws_FnZeroOne.l0 : Nat → List Int → List Int → Int → List (S55) → Option (Bool)
  | 0, _, _, _, _ => none
  | k + 1, x0, x5, x375000, x375001 => if (x5.length : Int) < x375000 then ((laws_pick.f k x0 (x5.length : Int) 50).bind fun t388 => (if x5.length < 17592186044416 then (laws_FnZeroOne.l0 k x0 (x5 ++ [t388]) x375000 x375001) else (none))) else (if 0 ≤ x375000 then (if x375000 ≤ (x5.length : Int) then ((some (x5.take (x375000 : Int).toNat : List Int)).bind fun y392 => ((impl_NetSorts.f k x375000 x375001).bind fun t395 => ((impl_NetFault.f k x375000 x375001).bind fun t396 => ((spec_NetSorts.f k x375000 x375001).bind fun t399 => (if (t395 != t399) = true then (laws_FnZeroOne.j2 k y392 t395 t396 true x375000 x375001) else (laws_FnZeroOne.j2 k y392 t395 t396 (t395 != ((t396.length : Int) == 0)) x375000 x375001)))))) else (none)) else (none))
def laws_FnZeroOne.j2 : Nat → List Int → Bool → List Int → Bool → Int → List (S55) → Option (Bool)
  | 0, _, _, _, _, _, _ => none
  | k + 1, x5, x6, x7, x67, x375000, x375001 => if x67 = true then (some false) else (if x6 = true then ((impl_NetRun.f x375000 x375001 x5).bind fun t400 => ((laws_sorted.f k t400).bind fun t403 => (if t403 = true then ((impl_NetRun.f x375000 x375001 x5).bind fun t404 => (some ((t404.length : Int) == x375000))) else (some false)))) else ((some (([] : List Int) : List Int)).bind fun y407 => (if y407.length + x7.length < 17592186044416 then ((impl_NetRun.f x375000 x375001 (y407 ++ x7)).bind fun t413 => (if (t413.length : Int) = x375000 then ((laws_sorted.f k t413).bind fun t416 => (laws_FnZeroOne.j3 k x7 t416 x375000 x375001)) else (laws_FnZeroOne.j3 k x7 true x375000 x375001))) else (none))))
def laws_FnZeroOne.j3 : Nat → List Int → Bool → Int → List (S55) → Option (Bool)
  | 0, _, _, _, _ => none
  | k + 1, x7, x95, x375000, x375001 => if x95 = true then (some false) else ((some (([] : List Int) : List Int)).bind fun y417 => (if y417.length + x7.length < 17592186044416 then (laws_FnZeroOne.l1 k (y417 ++ x7) (wrap64 (x375000 - 1)) x375000 x375001) else (none)))
def laws_FnZeroOne.l1 : Nat → List Int → Int → Int → List (S55) → Option (Bool)
  | 0, _, _, _, _ => none
  | k + 1, x9, x10, x375000, x375001 => if x10 ≥ 0 then (if 0 ≤ x10 then (if x10 < (x9.length : Int) then ((some (x9.set (x10 : Int).toNat (wrap64 (1 - (rd x9 x10))) : List Int)).bind fun y424 => (if (rd y424 x10) = 0 then ((impl_NetRun.f x375000 x375001 y424).bind fun t426 => ((laws_sorted.f k t426).bind fun t429 => (some t429))) else (laws_FnZeroOne.l1 k y424 (wrap64 (x10 - 1)) x375000 x375001))) else (none)) else (none)) else (some false)
end
def laws_FnZeroOne.f (k : Nat) (l0 : List Int) : Option (Bool) := (laws_big.f l0).bind fun t369 => (if t369 = true then (some true) else ((spec_DrawNetSorts.f k l0).bind fun bt370 => ((spec_DrawNetRun.f k l0).bind fun bt375 => ((spec_NetOk.f k bt370.1 bt370.2).bind fun t383 => (if t383 = true then (laws_FnZeroOne.j0 k l0 bt375.2.2 (decide (bt370.1 > 12)) bt370.1 bt370.2) else (laws_FnZeroOne.j0 k l0 bt375.2.2 true bt370.1 bt370.2))))))
theorem laws_FnZeroOne.mono_l : ∀ k, (∀ y0 y1 y2 y3 y4, LeO (laws_FnZeroOne.j0 k y0 y1 y2 y3 y4) (laws_FnZeroOne.j0 (k + 1) y0 y1 y2 y3 y4)) ∧ (∀ y0 y1 y2 y3, LeO (laws_FnZeroOne.l0 k y0 y1 y2 y3) (laws_FnZeroOne.l0 (k + 1) y0 y1 y2 y3)) ∧ (∀ y0 y1 y2 y3 y4 y5, LeO (laws_FnZeroOne.j2 k y0 y1 y2 y3 y4 y5) (laws_FnZeroOne.j2 (k + 1) y0 y1 y2 y3 y4 y5)) ∧ (∀ y0 y1 y2 y3, LeO (laws_FnZeroOne.j3 k y0 y1 y2 y3) (laws_FnZeroOne.j3 (k + 1) y0 y1 y2 y3)) ∧ (∀ y0 y1 y2 y3, LeO (laws_FnZeroOne.l1 k y0 y1 y2 y3) (laws_FnZeroOne.l1 (k + 1) y0 y1 y2 y3))
  | 0 => ⟨fun _ _ _ _ _ r h => by simp [laws_FnZeroOne.j0] at h, fun _ _ _ _ r h => by simp [laws_FnZeroOne.l0] at h, fun _ _ _ _ _ _ r h => by simp [laws_FnZeroOne.j2] at h, fun _ _ _ _ r h => by simp [laws_FnZeroOne.j3] at h, fun _ _ _ _ r h => by simp [laws_FnZeroOne.l1] at h⟩
  | k + 1 => by
    obtain ⟨ih0, ih1, ih2, ih3, ih4⟩ := laws_FnZeroOne.mono_l k
    refine ⟨?_, ?_, ?_, ?_, ?_⟩
    · intro y0 y1 y2 y3 y4
      unfold laws_FnZeroOne.j0
      repeat' first
      | (with_reducible exact ih0 _ _ _ _ _)
      | (with_reducible exact ih1 _ _ _ _)
      | (with_reducible exact ih2 _ _ _ _ _ _)
      | (with_reducible exact ih3 _ _ _ _)
      | (with_reducible exact ih4 _ _ _ _)
      | (with_reducible exact impl_NetFault.mono _ _ _)
      | (with_reducible exact impl_NetSorts.mono _ _ _)
      | (with_reducible exact laws_pick.mono _ _ _ _)
      | (with_reducible exact laws_sorted.mono _ _)
      | (with_reducible exact spec_DrawNetRun.mono _ _)
      | (with_reducible exact spec_DrawNetSorts.mono _ _)
      | (with_reducible exact spec_NetOk.mono _ _ _)
      | (with_reducible exact spec_NetSorts.mono _ _ _)
      | (with_reducible exact LeO.refl _)
      | (with_reducible exact LeO.none _)
      | (with_reducible refine LeO.ite ?_ ?_)
      | (with_reducible refine LeO.bind ?_ (fun _ => ?_))
      | exact ih0 _ _ _ _ _
      | exact ih1 _ _ _ _
      | exact ih2 _ _ _ _ _ _
      | exact ih3 _ _ _ _
      | exact ih4 _ _ _ _
      | exact impl_NetFault.mono _ _ _
      | exact impl_NetSorts.mono _ _ _
      | exact laws_pick.mono _ _ _ _
      | exact laws_sorted.mono _ _
      | exact spec_DrawNetRun.mono _ _
      | exact spec_DrawNetSorts.mono _ _
      | exact spec_NetOk.mono _ _ _
      | exact spec_NetSorts.mono _ _ _
      | exact LeO.none _
      | refine LeO.ite ?_ ?_
      | refine LeO.bind ?_ (fun _ => ?_)
    · intro y0 y1 y2 y3
      unfold laws_FnZeroOne.l0
      repeat' first
      | (with_reducible exact ih0 _ _ _ _ _)
      | (with_reducible exact ih1 _ _ _ _)
      | (with_reducible exact ih2 _ _ _ _ _ _)
      | (with_reducible exact ih3 _ _ _ _)
      | (with_reducible exact ih4 _ _ _ _)
      | (with_reducible exact impl_NetFault.mono _ _ _)
      | (with_reducible exact impl_NetSorts.mono _ _ _)
      | (with_reducible exact laws_pick.mono _ _ _ _)
      | (with_reducible exact laws_sorted.mono _ _)
      | (with_reducible exact spec_DrawNetRun.mono _ _)
      | (with_reducible exact spec_DrawNetSorts.mono _ _)
      | (with_reducible exact spec_NetOk.mono _ _ _)
      | (with_reducible exact spec_NetSorts.mono _ _ _)
      | (with_reducible exact LeO.refl _)
      | (with_reducible exact LeO.none _)
      | (with_reducible refine LeO.ite ?_ ?_)
      | (with_reducible refine LeO.bind ?_ (fun _ => ?_))
      | exact ih0 _ _ _ _ _
      | exact ih1 _ _ _ _
      | exact ih2 _ _ _ _ _ _
      | exact ih3 _ _ _ _
      | exact ih4 _ _ _ _
      | exact impl_NetFault.mono _ _ _
      | exact impl_NetSorts.mono _ _ _
      | exact laws_pick.mono _ _ _ _
      | exact laws_sorted.mono _ _
      | exact spec_DrawNetRun.mono _ _
      | exact spec_DrawNetSorts.mono _ _
      | exact spec_NetOk.mono _ _ _
      | exact spec_NetSorts.mono _ _ _
      | exact LeO.none _
      | refine LeO.ite ?_ ?_
      | refine LeO.bind ?_ (fun _ => ?_)
    · intro y0 y1 y2 y3 y4 y5
      unfold laws_FnZeroOne.j2
      repeat' first
      | (with_reducible exact ih0 _ _ _ _ _)
      | (with_reducible exact ih1 _ _ _ _)
      | (with_reducible exact ih2 _ _ _ _ _ _)
      | (with_reducible exact ih3 _ _ _ _)
      | (with_reducible exact ih4 _ _ _ _)
      | (with_reducible exact impl_NetFault.mono _ _ _)
      | (with_reducible exact impl_NetSorts.mono _ _ _)
      | (with_reducible exact laws_pick.mono _ _ _ _)
      | (with_reducible exact laws_sorted.mono _ _)
      | (with_reducible exact spec_DrawNetRun.mono _ _)
      | (with_reducible exact spec_DrawNetSorts.mono _ _)
      | (with_reducible exact spec_NetOk.mono _ _ _)
      | (with_reducible exact spec_NetSorts.mono _ _ _)
      | (with_reducible exact LeO.refl _)
      | (with_reducible exact LeO.none _)
      | (with_reducible refine LeO.ite ?_ ?_)
      | (with_reducible refine LeO.bind ?_ (fun _ => ?_))
      | exact ih0 _ _ _ _ _
      | exact ih1 _ _ _ _
      | exact ih2 _ _ _ _ _ _
      | exact ih3 _ _ _ _
      | exact ih4 _ _ _ _
      | exact impl_NetFault.mono _ _ _
      | exact impl_NetSorts.mono _ _ _
      | exact laws_pick.mono _ _ _ _
      | exact laws_sorted.mono _ _
      | exact spec_DrawNetRun.mono _ _
      | exact spec_DrawNetSorts.mono _ _
      | exact spec_NetOk.mono _ _ _
      | exact spec_NetSorts.mono _ _ _
      | exact LeO.none _
      | refine LeO.ite ?_ ?_
      | refine LeO.bind ?_ (fun _ => ?_)
    · intro y0 y1 y2 y3
      unfold laws_FnZeroOne.j3
      repeat' first
      | (with_reducible exact ih0 _ _ _ _ _)
      | (with_reducible exact ih1 _ _ _ _)
      | (with_reducible exact ih2 _ _ _ _ _ _)
      | (with_reducible exact ih3 _ _ _ _)
      | (with_reducible exact ih4 _ _ _ _)
      | (with_reducible exact impl_NetFault.mono _ _ _)
      | (with_reducible exact impl_NetSorts.mono _ _ _)
      | (with_reducible exact laws_pick.mono _ _ _ _)
      | (with_reducible exact laws_sorted.mono _ _)
      | (with_reducible exact spec_DrawNetRun.mono _ _)
      | (with_reducible exact spec_DrawNetSorts.mono _ _)
      | (with_reducible exact spec_NetOk.mono _ _ _)
      | (with_reducible exact spec_NetSorts.mono _ _ _)
      | (with_reducible exact LeO.refl _)
      | (with_reducible exact LeO.none _)
      | (with_reducible refine LeO.ite ?_ ?_)
      | (with_reducible refine LeO.bind ?_ (fun _ => ?_))
      | exact ih0 _ _ _ _ _
      | exact ih1 _ _ _ _
      | exact ih2 _ _ _ _ _ _
      | exact ih3 _ _ _ _
      | exact ih4 _ _ _ _
      | exact impl_NetFault.mono _ _ _
      | exact impl_NetSorts.mono _ _ _
      | exact laws_pick.mono _ _ _ _
      | exact laws_sorted.mono _ _
      | exact spec_DrawNetRun.mono _ _
      | exact spec_DrawNetSorts.mono _ _
      | exact spec_NetOk.mono _ _ _
      | exact spec_NetSorts.mono _ _ _
      | exact LeO.none _
      | refine LeO.ite ?_ ?_
      | refine LeO.bind ?_ (fun _ => ?_)
    · intro y0 y1 y2 y3
      unfold laws_FnZeroOne.l1
      repeat' first
      | (with_reducible exact ih0 _ _ _ _ _)
      | (with_reducible exact ih1 _ _ _ _)
      | (with_reducible exact ih2 _ _ _ _ _ _)
      | (with_reducible exact ih3 _ _ _ _)
      | (with_reducible exact ih4 _ _ _ _)
      | (with_reducible exact impl_NetFault.mono _ _ _)
      | (with_reducible exact impl_NetSorts.mono _ _ _)
      | (with_reducible exact laws_pick.mono _ _ _ _)
      | (with_reducible exact laws_sorted.mono _ _)
      | (with_reducible exact spec_DrawNetRun.mono _ _)
      | (with_reducible exact spec_DrawNetSorts.mono _ _)
      | (with_reducible exact spec_NetOk.mono _ _ _)
      | (with_reducible exact spec_NetSorts.mono _ _ _)
      | (with_reducible exact LeO.refl _)
      | (with_reducible exact LeO.none _)
      | (with_reducible refine LeO.ite ?_ ?_)
      | (with_reducible refine LeO.bind ?_ (fun _ => ?_))
      | exact ih0 _ _ _ _ _
      | exact ih1 _ _ _ _
      | exact ih2 _ _ _ _ _ _
      | exact ih3 _ _ _ _
      | exact ih4 _ _ _ _
      | exact impl_NetFault.mono _ _ _
      | exact impl_NetSorts.mono _ _ _
      | exact laws_pick.mono _ _ _ _
      | exact laws_sorted.mono _ _
      | exact spec_DrawNetRun.mono _ _
      | exact spec_DrawNetSorts.mono _ _
      | exact spec_NetOk.mono _ _ _
      | exact spec_NetSorts.mono _ _ _
      | exact LeO.none _
      | refine LeO.ite ?_ ?_
      | refine LeO.bind ?_ (fun _ => ?_)
theorem laws_FnZeroOne.mono : ∀ a0 k, LeO (laws_FnZeroOne.f k a0) (laws_FnZeroOne.f (k + 1) a0) := by
  intro a0 k
  obtain ⟨ih0, ih1, ih2, ih3, ih4⟩ := laws_FnZeroOne.mono_l k
  unfold laws_FnZeroOne.f
  repeat' first
      | (with_reducible exact ih0 _ _ _ _ _)
      | (with_reducible exact ih1 _ _ _ _)
      | (with_reducible exact ih2 _ _ _ _ _ _)
      | (with_reducible exact ih3 _ _ _ _)
      | (with_reducible exact ih4 _ _ _ _)
      | (with_reducible exact impl_NetFault.mono _ _ _)
      | (with_reducible exact impl_NetSorts.mono _ _ _)
      | (with_reducible exact laws_pick.mono _ _ _ _)
      | (with_reducible exact laws_sorted.mono _ _)
      | (with_reducible exact spec_DrawNetRun.mono _ _)
      | (with_reducible exact spec_DrawNetSorts.mono _ _)
      | (with_reducible exact spec_NetOk.mono _ _ _)
      | (with_reducible exact spec_NetSorts.mono _ _ _)
      | (with_reducible exact LeO.refl _)
      | (with_reducible exact LeO.none _)
      | (with_reducible refine LeO.ite ?_ ?_)
      | (with_reducible refine LeO.bind ?_ (fun _ => ?_))
      | exact ih0 _ _ _ _ _
      | exact ih1 _ _ _ _
      | exact ih2 _ _ _ _ _ _
      | exact ih3 _ _ _ _
      | exact ih4 _ _ _ _
      | exact impl_NetFault.mono _ _ _
      | exact impl_NetSorts.mono _ _ _
      | exact laws_pick.mono _ _ _ _
      | exact laws_sorted.mono _ _
      | exact spec_DrawNetRun.mono _ _
      | exact spec_DrawNetSorts.mono _ _
      | exact spec_NetOk.mono _ _ _
      | exact spec_NetSorts.mono _ _ _
      | exact LeO.none _
      | refine LeO.ite ?_ ?_
      | refine LeO.bind ?_ (fun _ => ?_)
def laws_FnZeroOne.T15 : Bool × List (List Nat × List Nat) := (true, [([], []), ([], []), ([0, 1], [0, 1]), ([2, 2], [2]), ([3, 3], [3]), ([4], [4]), ([4], [4]), ([5, 6, 4, 4], [4, 5, 6]), ([7, 4], [4, 7]), ([4], [4]), ([9, 4], [4, 9]), ([8, 10, 4], [4, 8, 10]), ([4, 11], [4, 11]), ([12, 7, 0, 1, 2, 3, 4, 5, 6, 7, 8, 9, 10, 11, 12], [12])])
def laws_FnZeroOne.B15 : List Nat := [0, 0, 3, 7, 15, 31, 31, 127, 255, 31, 543, 2047, 4095, 8191]
theorem laws_FnZeroOne.tab15 : rtab .any (opsOf Try.f6 15) = laws_FnZeroOne.T15 := by kernel_rfl
theorem laws_FnZeroOne.bits15 : waitsOk laws_FnZeroOne.T15.2 laws_FnZeroOne.B15 = true := by kernel_rfl
set_option maxHeartbeats 8000000 in
set_option maxRecDepth 100000 in
theorem laws_FnZeroOne.calls (k : Nat) (A0 : Option Addr) (c0 : Nat) (l0 : List Int) (r : Bool) (w : World) (hr0 : Kd.C (Kd.int .u8) w A0 l0.length l0) (hc0 : l0.length ≤ c0) (h : laws_FnZeroOne.f k l0 = some r) (hT_ : r = true := by rfl) :
    Calls Try.prog 6 #[.slice A0 l0.length c0] w fun e w' => e = .returned (.bool r) ∧ Below w.heap.size w w' := by
  have HTRUE_ := Aside0.mk hT_
  clear hT_
  have hu28 := Try.underlying28
  have HR0 := Aside0.mk hr0
  have HC0 := Aside0.mk hc0
  clear hr0 hc0
  have HB := Aside0.mk (Below.refl w.heap.size w)
  have H : ((laws_big.f l0).bind fun t369 => (if t369 = true then (some true) else ((spec_DrawNetSorts.f k l0).bind fun bt370 => ((spec_DrawNetRun.f k l0).bind fun bt375 => ((spec_NetOk.f k bt370.1 bt370.2).bind fun t383 => (if t383 = true then (laws_FnZeroOne.j0 k l0 bt375.2.2 (decide (bt370.1 > 12)) bt370.1 bt370.2) else (laws_FnZeroOne.j0 k l0 bt375.2.2 true bt370.1 bt370.2))))))) = some r := h
  clear h
  replace H := Option.bind_eq_some_iff.mp H
  obtain ⟨t369, A20, H⟩ := H
  replace H : (if t369 = true then (some true) else ((spec_DrawNetSorts.f k l0).bind fun bt370 => ((spec_DrawNetRun.f k l0).bind fun bt375 => ((spec_NetOk.f k bt370.1 bt370.2).bind fun t383 => (if t383 = true then (laws_FnZeroOne.j0 k l0 bt375.2.2 (decide (bt370.1 > 12)) bt370.1 bt370.2) else (laws_FnZeroOne.j0 k l0 bt375.2.2 true bt370.1 bt370.2)))))) = some r := H
  have A2 := Aside0.mk A20
  clear A20
  by_cases c3 : t369 = true
  · subst c3
    have H1 : (some true) = some r := by rw [if_pos rfl] at H; exact H
    clear H
    have H := H1
    clear H1
    obtain rfl := Option.some.inj H
    go_enter Try.func6, Try.ntmps6
    go_wp2_with (first | ((with_reducible refine gate_callee (f := 7) rfl ?_); refine goesL_ (some 12) rfl rfl Try.func7 (by kernel_rfl) rfl #[.slice A0 l0.length c0] rfl (by (try simp only [List.map_toArray, List.map_cons, List.map_nil]); first | done | rfl | (simp only [List.length_drop, List.length_take]; rfl)) ?_; (with_reducible refine (laws_big.calls _ _ l0 true _ ?side1 ?side2 A2.out).mono ?_); (case side1 => repeat (first | exact HR0.out | (with_reducible refine Kd.C_alloc ?_ _) | (with_reducible refine Kd.C_drewN ?_ _) | (with_reducible refine Kd.C_drew ?_))); (case side2 => exact HC0.out); rintro e w' ⟨rfl, ⟨nd, rfl⟩⟩; refine ⟨_, rfl, ?_⟩))
    go_ret
    exact ⟨by first | rfl | (simp [errW_none, errW_some] <;> rfl) | (simp [*, errW_none, errW_some] <;> rfl), by repeat (first | (with_reducible first | exact HB.out | apply below_alloc | apply pw_below_drewN | apply below_drew1) | exact HB.out)⟩
  · replace c3 := Bool.eq_false_iff.mpr c3
    subst c3
    have H1 : ((spec_DrawNetSorts.f k l0).bind fun bt370 => ((spec_DrawNetRun.f k l0).bind fun bt375 => ((spec_NetOk.f k bt370.1 bt370.2).bind fun t383 => (if t383 = true then (laws_FnZeroOne.j0 k l0 bt375.2.2 (decide (bt370.1 > 12)) bt370.1 bt370.2) else (laws_FnZeroOne.j0 k l0 bt375.2.2 true bt370.1 bt370.2))))) = some r := by rw [if_neg (show ¬ (false = true) by decide)] at H; exact H
    clear H
    have H := H1
    clear H1
    replace H := Option.bind_eq_some_iff.mp H
    obtain ⟨⟨t370, t371⟩, A40, H⟩ := H
    replace H : ((spec_DrawNetRun.f k l0).bind fun bt375 => ((spec_NetOk.f k t370 t371).bind fun t383 => (if t383 = true then (laws_FnZeroOne.j0 k l0 bt375.2.2 (decide (t370 > 12)) t370 t371) else (laws_FnZeroOne.j0 k l0 bt375.2.2 true t370 t371)))) = some r := H
    have A4 := Aside0.mk A40
    clear A40
    replace H := Option.bind_eq_some_iff.mp H
    obtain ⟨⟨t375, t376, t379⟩, A50, H⟩ := H
    replace H : ((spec_NetOk.f k t370 t371).bind fun t383 => (if t383 = true then (laws_FnZeroOne.j0 k l0 t379 (decide (t370 > 12)) t370 t371) else (laws_FnZeroOne.j0 k l0 t379 true t370 t371))) = some r := H
    have A5 := Aside0.mk A50
    clear A50
    have HC6 := Aside0.mk H
    clear H
    go_enter Try.func6, Try.ntmps6
    go_upto_region 5 with (first | ((with_reducible refine gate_callee (f := 7) rfl ?_); refine goesL_ (some 12) rfl rfl Try.func7 (by kernel_rfl) rfl #[.slice A0 l0.length c0] rfl (by (try simp only [List.map_toArray, List.map_cons, List.map_nil]); first | done | rfl | (simp only [List.length_drop, List.length_take]; rfl)) ?_; (with_reducible refine (laws_big.calls _ _ l0 false _ ?side1 ?side2 A2.out).mono ?_); (case side1 => repeat (first | exact HR0.out | (with_reducible refine Kd.C_alloc ?_ _) | (with_reducible refine Kd.C_drewN ?_ _) | (with_reducible refine Kd.C_drew ?_))); (case side2 => exact HC0.out); rintro e w' ⟨rfl, ⟨nd, rfl⟩⟩; refine ⟨_, rfl, ?_⟩) | ((with_reducible refine gate_callee (f := 27) rfl ?_); refine goesL_ (some 14) rfl rfl Try.func27 (by kernel_rfl) rfl #[.slice A0 l0.length c0] rfl (by (try simp only [List.map_toArray, List.map_cons, List.map_nil]); first | done | rfl | (simp only [List.length_drop, List.length_take]; rfl)) ?_; (with_reducible refine (spec_DrawNetSorts.calls k _ _ l0 t370 t371 _ ?side1 ?side2 A4.out).mono ?_); (case side1 => repeat (first | exact HR0.out | (with_reducible refine Kd.C_alloc ?_ _) | (with_reducible refine Kd.C_drewN ?_ _) | (with_reducible refine Kd.C_drew ?_))); (case side2 => exact HC0.out); rintro e w7 ⟨v372, rfl, ho0, hb⟩; refine ⟨_, rfl, ?_⟩; have n0_ := Aside0.mk (Kd.R_lower ho0 (below_size (by repeat (first | (with_reducible first | exact HB.out | apply below_alloc | apply pw_below_drewN | apply below_drew1) | exact HB.out)))); have n1_ := Aside0.mk (below_step (by repeat (first | (with_reducible first | exact HB.out | apply below_alloc | apply pw_below_drewN | apply below_drew1) | exact HB.out)) hb); clear HB; have HO373 := n0_; have HB := n1_; clear n0_ n1_; (try clear hb); (try clear hb2); (try clear hk); (try clear hi); (try clear ho0)) | ((with_reducible refine gate_dst (N := 3) rfl ?_); (try (refine gate_guard (by rfl) ?_; dsimp only)); refine box_event ?hg (N := 3) ?hd (cs := #[.int .i64 0, .slice none 0 0]) (t := 28) ?hr ?_; (case hd => rfl); (case hg => rfl); (case hr => first | (go_simp; done) | (go_simp; rfl)); intro gb374 hg w8 hbox hb; have n0_ := Aside0.mk (Kd.R_below (by (with_reducible repeat (first | apply Kd.R_alloc | apply Kd.R_drewN | apply Kd.R_drew)); exact HO373.out) hb); have n1_ := Aside0.mk (below_step (by repeat (first | (with_reducible first | exact HB.out | apply below_alloc | apply pw_below_drewN | apply below_drew1) | exact HB.out)) hb); have n2_ := Aside0.mk (hbox); have n3_ := Aside0.mk ((by rw [hg]; exact (below_size (by repeat (first | (with_reducible first | exact HB.out | apply below_alloc | apply pw_below_drewN | apply below_drew1) | exact HB.out))) : w.heap.size ≤ gb374)); have n4_ := Aside0.mk ((by rw [hg]; exact (below_size (by repeat (first | (with_reducible first | exact HB.out | apply below_alloc | apply pw_below_drewN | apply below_drew1) | exact HB.out))) : w.heap.size ≤ gb374)); clear HO373; clear HB; have HO373 := n0_; have HB := n1_; have BK374 := n2_; have GW374 := n3_; have GE374 := n4_; clear n0_ n1_ n2_ n3_ n4_; clear hb hbox hg; have hcz9_0 : w8.cell? ⟨gb374, 0, none⟩ = some (.int .i64 0) := (blk_cell BK374.out 0).trans rfl; have hcz9_1 : w8.cell? ⟨gb374, 1, none⟩ = some (.slice none 0 0) := (blk_cell BK374.out 1).trans rfl; have hfz9_0 := blk_frozen BK374.out 0; have hfz9_1 := blk_frozen BK374.out 1; obtain ⟨Ao10, co10, eo10⟩ := Kd.R_slice HO373.out; subst eo10) | ((with_reducible refine gate_callee (f := 28) rfl ?_); refine goesL_ (some 17) rfl rfl Try.func28 (by kernel_rfl) rfl #[.slice A0 l0.length c0] rfl (by (try simp only [List.map_toArray, List.map_cons, List.map_nil]); first | done | rfl | (simp only [List.length_drop, List.length_take]; rfl)) ?_; (with_reducible refine (spec_DrawNetRun.calls k _ _ l0 t375 t376 t379 _ ?side1 ?side2 A5.out).mono ?_); (case side1 => exact Kd.C_below HR0.out (by repeat (first | (with_reducible first | exact HB.out | apply below_alloc | apply pw_below_drewN | apply below_drew1 | refine below_set ?_ GE374.out) | exact HB.out))); (case side2 => exact HC0.out); rintro e w11 ⟨v377, v380, rfl, ho0, ho1, hb⟩; refine ⟨_, rfl, ?_⟩; have n0_ := Aside0.mk (Kd.R_elder' (by (with_reducible repeat (first | apply Kd.R_alloc | apply Kd.R_drewN | apply Kd.R_drew)); exact (Kd.R_mono (Kd.R_far (p := ⟨gb374, 1, none⟩) (Kd.R_far (p := ⟨gb374, 0, none⟩) (Kd.R_types HO373.out BK374.out (by decide)) (fun _ hk => by first | exact hk.2 | trivial) (.int .i64 t370)) (fun _ hk => by first | exact hk.2 | trivial) (.slice Ao10 t371.length co10)) (fun _ h_ => h_.1))) (Kd.R_base ho0) hb); have n1_ := Aside0.mk (Kd.R_lower (Kd.R_new' ho0 (Kd.R_lt (by (with_reducible repeat (first | apply Kd.R_alloc | apply Kd.R_drewN | apply Kd.R_drew)); exact (Kd.R_mono (Kd.R_far (p := ⟨gb374, 1, none⟩) (Kd.R_far (p := ⟨gb374, 0, none⟩) (Kd.R_types HO373.out BK374.out (by decide)) (fun _ hk => by first | exact hk.2 | trivial) (.int .i64 t370)) (fun _ hk => by first | exact hk.2 | trivial) (.slice Ao10 t371.length co10)) (fun _ h_ => h_.1))))) (below_size (by repeat (first | (with_reducible first | exact HB.out | apply below_alloc | apply pw_below_drewN | apply below_drew1 | refine below_set ?_ GE374.out) | exact HB.out)))); have n2_ := Aside0.mk (Kd.R_lower ho1 (below_size (by repeat (first | (with_reducible first | exact HB.out | apply below_alloc | apply pw_below_drewN | apply below_drew1 | refine below_set ?_ GE374.out) | exact HB.out)))); have n3_ := Aside0.mk (blk_below (g := gb374) (o := .cells #[.int .i64 t370, .slice Ao10 t371.length co10] 28 (0, 0)) (by (with_reducible repeat (first | refine blk_drewN ?_ _ | refine blk_drew ?_ | refine blk_alloc ?_ _)); refine blk_put (cs := #[.int .i64 t370, .slice none 0 0]) ?_ 1 _ rfl; (with_reducible repeat (first | refine blk_drewN ?_ _ | refine blk_drew ?_ | refine blk_alloc ?_ _)); refine blk_put (cs := #[.int .i64 0, .slice none 0 0]) ?_ 0 _ rfl; (with_reducible repeat (first | refine blk_drewN ?_ _ | refine blk_drew ?_ | refine blk_alloc ?_ _)); exact BK374.out) hb); have n4_ := Aside0.mk (below_step (by repeat (first | (with_reducible first | exact HB.out | apply below_alloc | apply pw_below_drewN | apply below_drew1 | refine below_set ?_ GE374.out) | exact HB.out)) hb); clear HO373; clear BK374; clear HB; have HO373 := n0_; have HO378 := n1_; have HO381 := n2_; have BK374 := n3_; have HB := n4_; clear n0_ n1_ n2_ n3_ n4_; (try clear hb); (try clear hb2); (try clear hk); (try clear hi); (try clear ho0); (try clear ho1)) | ((with_reducible refine gate_dst (N := 4) rfl ?_); (try (refine gate_guard (by rfl) ?_; dsimp only)); refine box_event ?hg (N := 4) ?hd (cs := #[.int .i64 0, .slice none 0 0]) (t := 28) ?hr ?_; (case hd => rfl); (case hg => rfl); (case hr => first | (go_simp; done) | (go_simp; rfl)); intro gb382 hg w12 hbox hb; have n0_ := Aside0.mk (Kd.R_below (by (with_reducible repeat (first | apply Kd.R_alloc | apply Kd.R_drewN | apply Kd.R_drew)); exact HO373.out) hb); have n1_ := Aside0.mk (Kd.R_below (by (with_reducible repeat (first | apply Kd.R_alloc | apply Kd.R_drewN | apply Kd.R_drew)); exact HO378.out) hb); have n2_ := Aside0.mk (Kd.R_below (by (with_reducible repeat (first | apply Kd.R_alloc | apply Kd.R_drewN | apply Kd.R_drew)); exact HO381.out) hb); have n3_ := Aside0.mk (blk_below (g := gb374) (o := .cells #[.int .i64 t370, .slice Ao10 t371.length co10] 28 (0, 0)) (by (with_reducible repeat (first | refine blk_drewN ?_ _ | refine blk_drew ?_ | refine blk_alloc ?_ _)); exact BK374.out) hb); have n4_ := Aside0.mk (below_step (by repeat (first | (with_reducible first | exact HB.out | apply below_alloc | apply pw_below_drewN | apply below_drew1 | refine below_set ?_ GE374.out) | exact HB.out)) hb); have n5_ := Aside0.mk (hbox); have n6_ := Aside0.mk ((by rw [hg]; exact (below_size (by repeat (first | (with_reducible first | exact HB.out | apply below_alloc | apply pw_below_drewN | apply below_drew1 | refine below_set ?_ GE374.out) | exact HB.out))) : w.heap.size ≤ gb382)); have n7_ := Aside0.mk ((by rw [hg]; exact (below_size (by repeat (first | (with_reducible first | exact HB.out | apply below_alloc | apply pw_below_drewN | apply below_drew1 | refine below_set ?_ GE374.out) | exact HB.out))) : w.heap.size ≤ gb382)); have n8_ := Aside0.mk ((by rw [hg]; exact Nat.ne_of_lt (blk_lt (g := gb374) (o := .cells #[.int .i64 t370, .slice Ao10 t371.length co10] 28 (0, 0)) (by (with_reducible repeat (first | refine blk_drewN ?_ _ | refine blk_drew ?_ | refine blk_alloc ?_ _)); exact BK374.out)) : gb374 ≠ gb382)); have n9_ := Aside0.mk ((by rw [hg]; exact Nat.ne_of_gt (blk_lt (g := gb374) (o := .cells #[.int .i64 t370, .slice Ao10 t371.length co10] 28 (0, 0)) (by (with_reducible repeat (first | refine blk_drewN ?_ _ | refine blk_drew ?_ | refine blk_alloc ?_ _)); exact BK374.out)) : gb382 ≠ gb374)); clear HO373; clear HO378; clear HO381; clear BK374; clear HB; have HO373 := n0_; have HO378 := n1_; have HO381 := n2_; have BK374 := n3_; have HB := n4_; have BK382 := n5_; have GW382 := n6_; have GE382 := n7_; have NB374_382 := n8_; have NB382_374 := n9_; clear n0_ n1_ n2_ n3_ n4_ n5_ n6_ n7_ n8_ n9_; clear hb hbox hg; have hnb13 := NB382_374.out; have hnc13 := NB374_382.out; have hcz14_0 : w12.cell? ⟨gb382, 0, none⟩ = some (.int .i64 0) := (blk_cell BK382.out 0).trans rfl; have hcz14_1 : w12.cell? ⟨gb382, 1, none⟩ = some (.slice none 0 0) := (blk_cell BK382.out 1).trans rfl; have hfz14_0 := blk_frozen BK382.out 0; have hfz14_1 := blk_frozen BK382.out 1; obtain ⟨Ao15, co15, eo15⟩ := Kd.R_slice HO378.out; subst eo15))
    (try simp only [Act.put, List.setIfInBounds_toArray, List.set_cons_zero, List.set_cons_succ])
    go_cut [27] (fun v27 wc => ∃ (kq : Nat) (x27_5 : Bool), v27 = .bool x27_5 ∧ Aside0 (laws_FnZeroOne.j0 kq l0 t379 x27_5 t370 t371 = some r) ∧ Aside0 (kq ≤ k) ∧ Aside0 (Kd.R (Kd.int .i64) 3 wc w.heap.size (fun _ => True) v380 t379) ∧ Aside0 (Kd.R k55 55 wc w.heap.size (fun k_ => some k_ ≠ ((.slice Ao15 t376.length co15) : Value).ownBlock) (.slice Ao10 t371.length co10) t371) ∧ Aside0 (Kd.R k55 55 wc w.heap.size (fun k_ => some k_ ≠ ((.slice Ao10 t371.length co10) : Value).ownBlock) (.slice Ao15 t376.length co15) t376) ∧ Aside0 (wc.heap[gb374]? = some (.cells #[.int .i64 t370, (.slice Ao10 t371.length co10)] 28 (0, 0))) ∧ Aside0 (wc.heap[gb382]? = some (.cells #[.int .i64 t375, (.slice Ao15 t376.length co15)] 28 (0, 0))) ∧ Aside0 (Below w.heap.size w wc))
    case first =>
      have H := HC6.out
      clear HC6
      replace H := Option.bind_eq_some_iff.mp H
      obtain ⟨t383, A160, H⟩ := H
      replace H : (if t383 = true then (laws_FnZeroOne.j0 k l0 t379 (decide (t370 > 12)) t370 t371) else (laws_FnZeroOne.j0 k l0 t379 true t370 t371)) = some r := H
      have A16 := Aside0.mk A160
      clear A160
      by_cases c17 : t383 = true
      · subst c17
        have H1 : (laws_FnZeroOne.j0 k l0 t379 (decide (t370 > 12)) t370 t371) = some r := by rw [if_pos rfl] at H; exact H
        clear H
        have H := H1
        clear H1
        have H' := Aside0.mk H
        clear H
        have hnb18 := NB374_382.out
        have hnc18 := NB382_374.out
        have hcz19_0 : w12.cell? ⟨gb374, 0, none⟩ = some (.int .i64 t370) := (blk_cell BK374.out 0).trans rfl
        have hcz19_1 : w12.cell? ⟨gb374, 1, none⟩ = some (.slice Ao10 t371.length co10) := (blk_cell BK374.out 1).trans rfl
        have hfz19_0 := blk_frozen BK374.out 0
        have hfz19_1 := blk_frozen BK374.out 1
        go_wp2_with (first | ((with_reducible refine gate_callee (f := 14) rfl ?_); refine goesL_ (some 21) rfl rfl Try.func14 (by kernel_rfl) rfl #[.agg #[.int .i64 t370, .slice Ao10 t371.length co10]] rfl (by (try simp only [List.map_toArray, List.map_cons, List.map_nil]); first | done | rfl | (simp only [List.length_drop, List.length_take]; rfl)) ?_; (with_reducible refine (spec_NetOk.calls k t370 _ _ t371 true _ ?side1 ?side2 A16.out).mono ?_); (case side1 => refine (Kd.R_reads' (e := 55) (base := w.heap.size) (ok := fun k_ => (True ∧ some k_ ≠ (.slice Ao15 t376.length co15 : Value).ownBlock)) (n := t371.length) (c := co10) ?_).2.2; exact (by (with_reducible repeat (first | apply Kd.R_alloc | apply Kd.R_drewN | apply Kd.R_drew)); exact (Kd.R_mono (Kd.R_far (p := ⟨gb382, 1, none⟩) (Kd.R_far (p := ⟨gb382, 0, none⟩) (Kd.R_types HO373.out BK382.out (by decide)) (fun _ hk => by first | exact hk.2 | trivial) (.int .i64 t375)) (fun _ hk => by first | exact hk.2 | trivial) (.slice Ao15 t376.length co15)) (fun _ h_ => h_.1)))); (case side2 => exact (Kd.R_reads' HO373.out).2.1); rintro e w20 ⟨rfl, hb⟩; refine ⟨_, rfl, ?_⟩; have n0_ := Aside0.mk (Kd.R_below (by (with_reducible repeat (first | apply Kd.R_alloc | apply Kd.R_drewN | apply Kd.R_drew)); exact (Kd.R_mono (Kd.R_far (p := ⟨gb382, 1, none⟩) (Kd.R_far (p := ⟨gb382, 0, none⟩) (Kd.R_types HO373.out BK382.out (by decide)) (fun _ hk => by first | exact hk.2 | trivial) (.int .i64 t375)) (fun _ hk => by first | exact hk.2 | trivial) (.slice Ao15 t376.length co15)) (fun _ h_ => h_.1))) hb); have n1_ := Aside0.mk (Kd.R_below (by (with_reducible repeat (first | apply Kd.R_alloc | apply Kd.R_drewN | apply Kd.R_drew)); exact (Kd.R_mono (Kd.R_far (p := ⟨gb382, 1, none⟩) (Kd.R_far (p := ⟨gb382, 0, none⟩) (Kd.R_types HO378.out BK382.out (by decide)) (fun _ hk => by first | exact hk.2 | trivial) (.int .i64 t375)) (fun _ hk => by first | exact hk.2 | trivial) (.slice Ao15 t376.length co15)) (fun _ h_ => h_.1))) hb); have n2_ := Aside0.mk (Kd.R_below (by (with_reducible repeat (first | apply Kd.R_alloc | apply Kd.R_drewN | apply Kd.R_drew)); exact (Kd.R_mono (Kd.R_far (p := ⟨gb382, 1, none⟩) (Kd.R_far (p := ⟨gb382, 0, none⟩) (Kd.R_types HO381.out BK382.out (by decide)) (fun _ hk => by first | exact hk.2 | trivial) (.int .i64 t375)) (fun _ hk => by first | exact hk.2 | trivial) (.slice Ao15 t376.length co15)) (fun _ h_ => h_.1))) hb); have n3_ := Aside0.mk (blk_below (g := gb374) (o := .cells #[.int .i64 t370, .slice Ao10 t371.length co10] 28 (0, 0)) (by (with_reducible repeat (first | refine blk_drewN ?_ _ | refine blk_drew ?_ | refine blk_alloc ?_ _)); refine blk_far ?_ NB374_382.out _; (with_reducible repeat (first | refine blk_drewN ?_ _ | refine blk_drew ?_ | refine blk_alloc ?_ _)); refine blk_far ?_ NB374_382.out _; (with_reducible repeat (first | refine blk_drewN ?_ _ | refine blk_drew ?_ | refine blk_alloc ?_ _)); exact BK374.out) hb); have n4_ := Aside0.mk (blk_below (g := gb382) (o := .cells #[.int .i64 t375, .slice Ao15 t376.length co15] 28 (0, 0)) (by (with_reducible repeat (first | refine blk_drewN ?_ _ | refine blk_drew ?_ | refine blk_alloc ?_ _)); refine blk_put (cs := #[.int .i64 t375, .slice none 0 0]) ?_ 1 _ rfl; (with_reducible repeat (first | refine blk_drewN ?_ _ | refine blk_drew ?_ | refine blk_alloc ?_ _)); refine blk_put (cs := #[.int .i64 0, .slice none 0 0]) ?_ 0 _ rfl; (with_reducible repeat (first | refine blk_drewN ?_ _ | refine blk_drew ?_ | refine blk_alloc ?_ _)); exact BK382.out) hb); have n5_ := Aside0.mk (below_step (by repeat (first | (with_reducible first | exact HB.out | apply below_alloc | apply pw_below_drewN | apply below_drew1 | refine below_set ?_ GE374.out | refine below_set ?_ GE382.out) | exact HB.out)) hb); clear HO373; clear HO378; clear HO381; clear BK374; clear BK382; clear HB; have HO373 := n0_; have HO378 := n1_; have HO381 := n2_; have BK374 := n3_; have BK382 := n4_; have HB := n5_; clear n0_ n1_ n2_ n3_ n4_ n5_; (try clear hb); (try clear hb2); (try clear hk); (try clear hi); have hcz21_0 : w20.cell? ⟨gb374, 0, none⟩ = some (.int .i64 t370) := (blk_cell BK374.out 0).trans rfl; have hcz21_1 : w20.cell? ⟨gb374, 1, none⟩ = some (.slice Ao10 t371.length co10) := (blk_cell BK374.out 1).trans rfl; have hfz21_0 := blk_frozen BK374.out 0; have hfz21_1 := blk_frozen BK374.out 1))
        go_meet
        case rel => exact ⟨_, (decide (t370 > 12)), (by first | rfl | (simp; done) | (simp [*]; done)), H', ⟨by first | omega | exact Nat.le_refl _⟩, ⟨by (with_reducible repeat (first | apply Kd.R_alloc | apply Kd.R_drewN | apply Kd.R_drew)); exact HO381.out⟩, ⟨by (with_reducible repeat (first | apply Kd.R_alloc | apply Kd.R_drewN | apply Kd.R_drew)); exact Kd.R_mono HO373.out (fun _ hk => by first | exact hk.2 | trivial)⟩, ⟨by (with_reducible repeat (first | apply Kd.R_alloc | apply Kd.R_drewN | apply Kd.R_drew)); exact Kd.R_mono HO378.out (fun _ hk => by first | exact hk.2 | trivial)⟩, ⟨by (with_reducible repeat (first | refine blk_drewN ?_ _ | refine blk_drew ?_ | refine blk_alloc ?_ _)); exact BK374.out⟩, ⟨by (with_reducible repeat (first | refine blk_drewN ?_ _ | refine blk_drew ?_ | refine blk_alloc ?_ _)); exact BK382.out⟩, ⟨by repeat (first | (with_reducible first | exact HB.out | apply below_alloc | apply pw_below_drewN | apply below_drew1 | refine below_set ?_ GE374.out | refine below_set ?_ GE382.out) | exact HB.out)⟩⟩
      · replace c17 := Bool.eq_false_iff.mpr c17
        subst c17
        have H1 : (laws_FnZeroOne.j0 k l0 t379 true t370 t371) = some r := by rw [if_neg (show ¬ (false = true) by decide)] at H; exact H
        clear H
        have H := H1
        clear H1
        have H' := Aside0.mk H
        clear H
        have hnb22 := NB374_382.out
        have hnc22 := NB382_374.out
        have hcz23_0 : w12.cell? ⟨gb374, 0, none⟩ = some (.int .i64 t370) := (blk_cell BK374.out 0).trans rfl
        have hcz23_1 : w12.cell? ⟨gb374, 1, none⟩ = some (.slice Ao10 t371.length co10) := (blk_cell BK374.out 1).trans rfl
        have hfz23_0 := blk_frozen BK374.out 0
        have hfz23_1 := blk_frozen BK374.out 1
        go_wp2_with (first | ((with_reducible refine gate_callee (f := 14) rfl ?_); refine goesL_ (some 21) rfl rfl Try.func14 (by kernel_rfl) rfl #[.agg #[.int .i64 t370, .slice Ao10 t371.length co10]] rfl (by (try simp only [List.map_toArray, List.map_cons, List.map_nil]); first | done | rfl | (simp only [List.length_drop, List.length_take]; rfl)) ?_; (with_reducible refine (spec_NetOk.calls k t370 _ _ t371 false _ ?side1 ?side2 A16.out).mono ?_); (case side1 => refine (Kd.R_reads' (e := 55) (base := w.heap.size) (ok := fun k_ => (True ∧ some k_ ≠ (.slice Ao15 t376.length co15 : Value).ownBlock)) (n := t371.length) (c := co10) ?_).2.2; exact (by (with_reducible repeat (first | apply Kd.R_alloc | apply Kd.R_drewN | apply Kd.R_drew)); exact (Kd.R_mono (Kd.R_far (p := ⟨gb382, 1, none⟩) (Kd.R_far (p := ⟨gb382, 0, none⟩) (Kd.R_types HO373.out BK382.out (by decide)) (fun _ hk => by first | exact hk.2 | trivial) (.int .i64 t375)) (fun _ hk => by first | exact hk.2 | trivial) (.slice Ao15 t376.length co15)) (fun _ h_ => h_.1)))); (case side2 => exact (Kd.R_reads' HO373.out).2.1); rintro e w24 ⟨rfl, hb⟩; refine ⟨_, rfl, ?_⟩; have n0_ := Aside0.mk (Kd.R_below (by (with_reducible repeat (first | apply Kd.R_alloc | apply Kd.R_drewN | apply Kd.R_drew)); exact (Kd.R_mono (Kd.R_far (p := ⟨gb382, 1, none⟩) (Kd.R_far (p := ⟨gb382, 0, none⟩) (Kd.R_types HO373.out BK382.out (by decide)) (fun _ hk => by first | exact hk.2 | trivial) (.int .i64 t375)) (fun _ hk => by first | exact hk.2 | trivial) (.slice Ao15 t376.length co15)) (fun _ h_ => h_.1))) hb); have n1_ := Aside0.mk (Kd.R_below (by (with_reducible repeat (first | apply Kd.R_alloc | apply Kd.R_drewN | apply Kd.R_drew)); exact (Kd.R_mono (Kd.R_far (p := ⟨gb382, 1, none⟩) (Kd.R_far (p := ⟨gb382, 0, none⟩) (Kd.R_types HO378.out BK382.out (by decide)) (fun _ hk => by first | exact hk.2 | trivial) (.int .i64 t375)) (fun _ hk => by first | exact hk.2 | trivial) (.slice Ao15 t376.length co15)) (fun _ h_ => h_.1))) hb); have n2_ := Aside0.mk (Kd.R_below (by (with_reducible repeat (first | apply Kd.R_alloc | apply Kd.R_drewN | apply Kd.R_drew)); exact (Kd.R_mono (Kd.R_far (p := ⟨gb382, 1, none⟩) (Kd.R_far (p := ⟨gb382, 0, none⟩) (Kd.R_types HO381.out BK382.out (by decide)) (fun _ hk => by first | exact hk.2 | trivial) (.int .i64 t375)) (fun _ hk => by first | exact hk.2 | trivial) (.slice Ao15 t376.length co15)) (fun _ h_ => h_.1))) hb); have n3_ := Aside0.mk (blk_below (g := gb374) (o := .cells #[.int .i64 t370, .slice Ao10 t371.length co10] 28 (0, 0)) (by (with_reducible repeat (first | refine blk_drewN ?_ _ | refine blk_drew ?_ | refine blk_alloc ?_ _)); refine blk_far ?_ NB374_382.out _; (with_reducible repeat (first | refine blk_drewN ?_ _ | refine blk_drew ?_ | refine blk_alloc ?_ _)); refine blk_far ?_ NB374_382.out _; (with_reducible repeat (first | refine blk_drewN ?_ _ | refine blk_drew ?_ | refine blk_alloc ?_ _)); exact BK374.out) hb); have n4_ := Aside0.mk (blk_below (g := gb382) (o := .cells #[.int .i64 t375, .slice Ao15 t376.length co15] 28 (0, 0)) (by (with_reducible repeat (first | refine blk_drewN ?_ _ | refine blk_drew ?_ | refine blk_alloc ?_ _)); refine blk_put (cs := #[.int .i64 t375, .slice none 0 0]) ?_ 1 _ rfl; (with_reducible repeat (first | refine blk_drewN ?_ _ | refine blk_drew ?_ | refine blk_alloc ?_ _)); refine blk_put (cs := #[.int .i64 0, .slice none 0 0]) ?_ 0 _ rfl; (with_reducible repeat (first | refine blk_drewN ?_ _ | refine blk_drew ?_ | refine blk_alloc ?_ _)); exact BK382.out) hb); have n5_ := Aside0.mk (below_step (by repeat (first | (with_reducible first | exact HB.out | apply below_alloc | apply pw_below_drewN | apply below_drew1 | refine below_set ?_ GE374.out | refine below_set ?_ GE382.out) | exact HB.out)) hb); clear HO373; clear HO378; clear HO381; clear BK374; clear BK382; clear HB; have HO373 := n0_; have HO378 := n1_; have HO381 := n2_; have BK374 := n3_; have BK382 := n4_; have HB := n5_; clear n0_ n1_ n2_ n3_ n4_ n5_; (try clear hb); (try clear hb2); (try clear hk); (try clear hi)))
        go_meet
        case rel => exact ⟨_, (true), (by first | rfl | (simp; done) | (simp [*]; done)), H', ⟨by first | omega | exact Nat.le_refl _⟩, ⟨by (with_reducible repeat (first | apply Kd.R_alloc | apply Kd.R_drewN | apply Kd.R_drew)); exact HO381.out⟩, ⟨by (with_reducible repeat (first | apply Kd.R_alloc | apply Kd.R_drewN | apply Kd.R_drew)); exact Kd.R_mono HO373.out (fun _ hk => by first | exact hk.2 | trivial)⟩, ⟨by (with_reducible repeat (first | apply Kd.R_alloc | apply Kd.R_drewN | apply Kd.R_drew)); exact Kd.R_mono HO378.out (fun _ hk => by first | exact hk.2 | trivial)⟩, ⟨by (with_reducible repeat (first | refine blk_drewN ?_ _ | refine blk_drew ?_ | refine blk_alloc ?_ _)); exact BK374.out⟩, ⟨by (with_reducible repeat (first | refine blk_drewN ?_ _ | refine blk_drew ?_ | refine blk_alloc ?_ _)); exact BK382.out⟩, ⟨by repeat (first | (with_reducible first | exact HB.out | apply below_alloc | apply pw_below_drewN | apply below_drew1 | refine below_set ?_ GE374.out | refine below_set ?_ GE382.out) | exact HB.out)⟩⟩
    case rest =>
      clear HC6
      try clear c1
      try clear c2
      try clear p2
      try clear c3
      try clear c6
      try clear c7
      try clear c13
      try clear c14
      try clear c17
      try clear c18
      try clear c22
      try clear hcz14_0
      try clear hcz14_1
      try clear hcz19_0
      try clear hcz19_1
      try clear hcz21_0
      try clear hcz21_1
      try clear hcz23_0
      try clear hcz23_1
      try clear hcz9_0
      try clear hcz9_1
      try clear hfz14_0
      try clear hfz14_1
      try clear hfz19_0
      try clear hfz19_1
      try clear hfz21_0
      try clear hfz21_1
      try clear hfz23_0
      try clear hfz23_1
      try clear hfz9_0
      try clear hfz9_1
      obtain ⟨kq, x27_5, rfl, HA, HJ5, HO_5, HO_375001, HO_383001, BK374, BK382, HB⟩ := hcut
      cases kq with
      | zero => exact absurd HA.out (by simp [laws_FnZeroOne.j0])
      | succ kj5 =>
        have H := HA.out
        clear HA
        simp only [laws_FnZeroOne.j0] at H
        by_cases c25 : x27_5 = true
        · subst c25
          have H1 : ((impl_NetSorts.f kj5 t370 t371).bind fun t384 => (if t384 = true then (some false) else ((impl_NetFault.f kj5 t370 t371).bind fun t385 => (some ((t385.length : Int) == 0))))) = some r := by rw [if_pos rfl] at H; exact H
          clear H
          have H := H1
          clear H1
          replace H := Option.bind_eq_some_iff.mp H
          obtain ⟨t384, A260, H⟩ := H
          replace H : (if t384 = true then (some false) else ((impl_NetFault.f kj5 t370 t371).bind fun t385 => (some ((t385.length : Int) == 0)))) = some r := H
          have A26 := Aside0.mk A260
          clear A260
          by_cases c27 : t384 = true
          · subst c27
            have H1 : (some false) = some r := by rw [if_pos rfl] at H; exact H
            clear H
            have H := H1
            clear H1
            exact absurd ((Option.some.inj H).trans HTRUE_.out) (by decide)
          · replace c27 := Bool.eq_false_iff.mpr c27
            subst c27
            have H1 : ((impl_NetFault.f kj5 t370 t371).bind fun t385 => (some ((t385.length : Int) == 0))) = some r := by rw [if_neg (show ¬ (false = true) by decide)] at H; exact H
            clear H
            have H := H1
            clear H1
            replace H := Option.bind_eq_some_iff.mp H
            obtain ⟨t385, A280, H⟩ := H
            replace H : (some ((t385.length : Int) == 0)) = some r := H
            have A28 := Aside0.mk A280
            clear A280
            obtain rfl := Option.some.inj H
            have hnb29 := NB374_382.out
            have hnc29 := NB382_374.out
            have hcz30_0 : wc.cell? ⟨gb374, 0, none⟩ = some (.int .i64 t370) := (blk_cell BK374.out 0).trans rfl
            have hcz30_1 : wc.cell? ⟨gb374, 1, none⟩ = some (.slice Ao10 t371.length co10) := (blk_cell BK374.out 1).trans rfl
            have hfz30_0 := blk_frozen BK374.out 0
            have hfz30_1 := blk_frozen BK374.out 1
            go_wp2_with (first | ((with_reducible refine gate_callee (f := 29) rfl ?_); refine goesL_ (some 29) rfl rfl Try.func29 (by kernel_rfl) rfl #[.agg #[.int .i64 t370, .slice Ao10 t371.length co10]] rfl (by (try simp only [List.map_toArray, List.map_cons, List.map_nil]); first | done | rfl | (simp only [List.length_drop, List.length_take]; rfl)) ?_; (with_reducible refine (impl_NetSorts.calls kj5 t370 _ _ t371 false _ ?side1 ?side2 A26.out).mono ?_); (case side1 => repeat (first | exact (Kd.R_reads' HO_375001.out).2.2 | (with_reducible refine Kd.C_alloc ?_ _) | (with_reducible refine Kd.C_drewN ?_ _) | (with_reducible refine Kd.C_drew ?_))); (case side2 => exact (Kd.R_reads' HO_375001.out).2.1); rintro e w31 ⟨rfl, hb⟩; refine ⟨_, rfl, ?_⟩; have n0_ := Aside0.mk (Kd.R_below (by (with_reducible repeat (first | apply Kd.R_alloc | apply Kd.R_drewN | apply Kd.R_drew)); exact HO_5.out) hb); have n1_ := Aside0.mk (Kd.R_below (by (with_reducible repeat (first | apply Kd.R_alloc | apply Kd.R_drewN | apply Kd.R_drew)); exact HO_375001.out) hb); have n2_ := Aside0.mk (Kd.R_below (by (with_reducible repeat (first | apply Kd.R_alloc | apply Kd.R_drewN | apply Kd.R_drew)); exact HO_383001.out) hb); have n3_ := Aside0.mk (blk_below (g := gb374) (o := .cells #[.int .i64 t370, .slice Ao10 t371.length co10] 28 (0, 0)) (by (with_reducible repeat (first | refine blk_drewN ?_ _ | refine blk_drew ?_ | refine blk_alloc ?_ _)); exact BK374.out) hb); have n4_ := Aside0.mk (blk_below (g := gb382) (o := .cells #[.int .i64 t375, .slice Ao15 t376.length co15] 28 (0, 0)) (by (with_reducible repeat (first | refine blk_drewN ?_ _ | refine blk_drew ?_ | refine blk_alloc ?_ _)); exact BK382.out) hb); have n5_ := Aside0.mk (below_step (by repeat (first | (with_reducible first | exact HB.out | apply below_alloc | apply pw_below_drewN | apply below_drew1 | refine below_set ?_ GE374.out | refine below_set ?_ GE382.out) | exact HB.out)) hb); clear HO_5; clear HO_375001; clear HO_383001; clear BK374; clear BK382; clear HB; have HO_5 := n0_; have HO_375001 := n1_; have HO_383001 := n2_; have BK374 := n3_; have BK382 := n4_; have HB := n5_; clear n0_ n1_ n2_ n3_ n4_ n5_; (try clear hb); (try clear hb2); (try clear hk); (try clear hi); have hcz32_0 : w31.cell? ⟨gb374, 0, none⟩ = some (.int .i64 t370) := (blk_cell BK374.out 0).trans rfl; have hcz32_1 : w31.cell? ⟨gb374, 1, none⟩ = some (.slice Ao10 t371.length co10) := (blk_cell BK374.out 1).trans rfl; have hfz32_0 := blk_frozen BK374.out 0; have hfz32_1 := blk_frozen BK374.out 1) | (go_at_call 30; (with_reducible refine (impl_NetFault.calls kj5 t370 _ _ t371 t385 _ ?side1 ?side2 A28.out).mono ?_); (case side1 => repeat (first | exact (Kd.R_reads' HO_375001.out).2.2 | (with_reducible refine Kd.C_alloc ?_ _) | (with_reducible refine Kd.C_drewN ?_ _) | (with_reducible refine Kd.C_drew ?_))); (case side2 => exact (Kd.R_reads' HO_375001.out).2.1); rintro e w33 ⟨v386, rfl, ho0, hb⟩; have n0_ := Aside0.mk (Kd.R_elder' (by (with_reducible repeat (first | apply Kd.R_alloc | apply Kd.R_drewN | apply Kd.R_drew)); exact HO_5.out) (Kd.R_base ho0) hb); have n1_ := Aside0.mk (Kd.R_below (by (with_reducible repeat (first | apply Kd.R_alloc | apply Kd.R_drewN | apply Kd.R_drew)); exact HO_375001.out) hb); have n2_ := Aside0.mk (Kd.R_below (by (with_reducible repeat (first | apply Kd.R_alloc | apply Kd.R_drewN | apply Kd.R_drew)); exact HO_383001.out) hb); have n3_ := Aside0.mk (Kd.R_lower (Kd.R_new' ho0 (Kd.R_lt (by (with_reducible repeat (first | apply Kd.R_alloc | apply Kd.R_drewN | apply Kd.R_drew)); exact HO_5.out))) (below_size (by repeat (first | (with_reducible first | exact HB.out | apply below_alloc | apply pw_below_drewN | apply below_drew1 | refine below_set ?_ GE374.out | refine below_set ?_ GE382.out) | exact HB.out)))); have n4_ := Aside0.mk (blk_below (g := gb374) (o := .cells #[.int .i64 t370, .slice Ao10 t371.length co10] 28 (0, 0)) (by (with_reducible repeat (first | refine blk_drewN ?_ _ | refine blk_drew ?_ | refine blk_alloc ?_ _)); exact BK374.out) hb); have n5_ := Aside0.mk (blk_below (g := gb382) (o := .cells #[.int .i64 t375, .slice Ao15 t376.length co15] 28 (0, 0)) (by (with_reducible repeat (first | refine blk_drewN ?_ _ | refine blk_drew ?_ | refine blk_alloc ?_ _)); exact BK382.out) hb); have n6_ := Aside0.mk (below_step (by repeat (first | (with_reducible first | exact HB.out | apply below_alloc | apply pw_below_drewN | apply below_drew1 | refine below_set ?_ GE374.out | refine below_set ?_ GE382.out) | exact HB.out)) hb); clear HO_5; clear HO_375001; clear HO_383001; clear BK374; clear BK382; clear HB; have HO_5 := n0_; have HO_375001 := n1_; have HO_383001 := n2_; have HO387 := n3_; have BK374 := n4_; have BK382 := n5_; have HB := n6_; clear n0_ n1_ n2_ n3_ n4_ n5_ n6_; (try clear hb); (try clear hb2); (try clear hk); (try clear hi); (try clear ho0); obtain ⟨Ao34, co34, eo34⟩ := Kd.R_slice HO387.out; subst eo34))
            go_ret
            exact ⟨by first | rfl | (simp [errW_none, errW_some] <;> rfl) | (simp [*, errW_none, errW_some] <;> rfl), by repeat (first | (with_reducible first | exact HB.out | apply below_alloc | apply pw_below_drewN | apply below_drew1 | refine below_set ?_ GE374.out | refine below_set ?_ GE382.out) | exact HB.out)⟩
        · replace c25 := Bool.eq_false_iff.mpr c25
          subst c25
          have H1 : (laws_FnZeroOne.l0 kj5 l0 t379 t370 t371) = some r := by rw [if_neg (show ¬ (false = true) by decide)] at H; exact H
          clear H
          have H := H1
          clear H1
          have H' := Aside0.mk H
          clear H
          go_wp2
          go_loopg [5] kj5 (fun kq v5 w' => ∃ (x5_2 : List Int), Aside0 (laws_FnZeroOne.l0 kq l0 x5_2 t370 t371 = some r) ∧ Aside0 (kq ≤ kj5) ∧ Aside0 (Kd.R (Kd.int .i64) 3 w' w.heap.size (fun _ => True) v5 x5_2) ∧ Aside0 (Kd.R k55 55 w' w.heap.size (fun k_ => some k_ ≠ ((.slice Ao15 t376.length co15) : Value).ownBlock) (.slice Ao10 t371.length co10) t371) ∧ Aside0 (Kd.R k55 55 w' w.heap.size (fun k_ => some k_ ≠ ((.slice Ao10 t371.length co10) : Value).ownBlock) (.slice Ao15 t376.length co15) t376) ∧ Aside0 (w'.heap[gb374]? = some (.cells #[.int .i64 t370, (.slice Ao10 t371.length co10)] 28 (0, 0))) ∧ Aside0 (w'.heap[gb382]? = some (.cells #[.int .i64 t375, (.slice Ao15 t376.length co15)] 28 (0, 0))) ∧ Aside0 (Below w.heap.size w w'))
          case atStart => exact ⟨(t379), H', ⟨Nat.le_refl _⟩, ⟨by (with_reducible repeat (first | apply Kd.R_alloc | apply Kd.R_drewN | apply Kd.R_drew)); exact HO_5.out⟩, ⟨by (with_reducible repeat (first | apply Kd.R_alloc | apply Kd.R_drewN | apply Kd.R_drew)); exact HO_375001.out⟩, ⟨by (with_reducible repeat (first | apply Kd.R_alloc | apply Kd.R_drewN | apply Kd.R_drew)); exact HO_383001.out⟩, ⟨by (with_reducible repeat (first | refine blk_drewN ?_ _ | refine blk_drew ?_ | refine blk_alloc ?_ _)); exact BK374.out⟩, ⟨by (with_reducible repeat (first | refine blk_drewN ?_ _ | refine blk_drew ?_ | refine blk_alloc ?_ _)); exact BK382.out⟩, ⟨by repeat (first | (with_reducible first | exact HB.out | apply below_alloc | apply pw_below_drewN | apply below_drew1 | refine below_set ?_ GE374.out | refine below_set ?_ GE382.out) | exact HB.out)⟩⟩
          case round =>
            clear H'
            try clear c1
            try clear c2
            try clear p2
            try clear c3
            try clear c6
            try clear c7
            try clear c13
            try clear c14
            try clear c17
            try clear c18
            try clear c22
            try clear c25
            try clear c27
            try clear c28
            try clear c29
            try clear hcz14_0
            try clear hcz14_1
            try clear hcz19_0
            try clear hcz19_1
            try clear hcz21_0
            try clear hcz21_1
            try clear hcz23_0
            try clear hcz23_1
            try clear hcz30_0
            try clear hcz30_1
            try clear hcz32_0
            try clear hcz32_1
            try clear hcz9_0
            try clear hcz9_1
            try clear hfz14_0
            try clear hfz14_1
            try clear hfz19_0
            try clear hfz19_1
            try clear hfz21_0
            try clear hfz21_1
            try clear hfz23_0
            try clear hfz23_1
            try clear hfz30_0
            try clear hfz30_1
            try clear hfz32_0
            try clear hfz32_1
            try clear hfz9_0
            try clear hfz9_1
            try clear p2
            obtain ⟨x5_2, HA, HK2, HO_5, HO_375001, HO_383001, BK374, BK382, HB⟩ := hrel
            cases gk with
            | zero => exact absurd HA.out (by simp [laws_FnZeroOne.l0])
            | succ k2 =>
              have H := HA.out
              clear HA
              simp only [laws_FnZeroOne.l0] at H
              by_cases c35 : (x5_2.length : Int) < t370
              · rw [if_pos c35] at H
                have c35b0 : decide ((x5_2.length : Int) < t370) = true := decide_eq_true c35
                clear c35
                replace H := Option.bind_eq_some_iff.mp H
                obtain ⟨t388, A360, H⟩ := H
                replace H : (if x5_2.length < 17592186044416 then (laws_FnZeroOne.l0 k2 l0 (x5_2 ++ [t388]) t370 t371) else (none)) = some r := H
                have A36 := Aside0.mk A360
                clear A360
                by_cases c37 : x5_2.length < 17592186044416
                · rw [if_pos c37] at H
                  have LMc37 := Aside0.mk c37
                  clear c37
                  obtain ⟨y389, hy389⟩ : ∃ y_ : List Int, y_ = (x5_2 ++ [t388]) := ⟨_, rfl⟩
                  replace H : (laws_FnZeroOne.l0 k2 l0 y389 t370 t371) = some r := by first | (rw [hy389]; with_reducible exact H) | (have H2_ := (Option.bind_some _ _).symm.trans H; rw [hy389]; with_reducible exact H2_) | (have H2_ := (Option.bind_some _ _).symm.trans H; with_reducible exact H2_) | with_reducible exact H | (rw [hy389]; exact H) | exact H
                  have Ny389 := Aside0.mk hy389
                  clear hy389
                  have H' := Aside0.mk H
                  clear H
                  obtain ⟨Ao38, co38, eo38⟩ := Kd.R_slice HO_5.out
                  subst eo38
                  have hnb39 := NB374_382.out
                  have hnc39 := NB382_374.out
                  have hcz40_0 : wr.cell? ⟨gb374, 0, none⟩ = some (.int .i64 t370) := (blk_cell BK374.out 0).trans rfl
                  have hcz40_1 : wr.cell? ⟨gb374, 1, none⟩ = some (.slice Ao10 t371.length co10) := (blk_cell BK374.out 1).trans rfl
                  have hfz40_0 := blk_frozen BK374.out 0
                  have hfz40_1 := blk_frozen BK374.out 1
                  go_wp2_with (first | ((with_reducible refine gate_callee (f := 8) rfl ?_); refine goesL_ (some 46) rfl rfl Try.func8 (by kernel_rfl) rfl #[.slice A0 l0.length c0, .int .i64 (x5_2.length : Int), .int .i64 50] rfl (by (try simp only [List.map_toArray, List.map_cons, List.map_nil]); first | done | rfl | (simp only [List.length_drop, List.length_take]; rfl)) ?_; (with_reducible refine (laws_pick.calls k2 _ _ l0 (x5_2.length : Int) 50 t388 _ ?side1 ?side2 A36.out).mono ?_); (case side1 => repeat (first | exact (Kd.C_below HR0.out HB.out) | (with_reducible refine Kd.C_alloc ?_ _) | (with_reducible refine Kd.C_drewN ?_ _) | (with_reducible refine Kd.C_drew ?_))); (case side2 => exact HC0.out); rintro e w' ⟨rfl, ⟨nd, rfl⟩⟩; refine ⟨_, rfl, ?_⟩) | ((with_reducible refine gate_builtin (b := .append) (xs := #[.tmp 42, .tmp 47]) rfl ?_); (try (refine gate_guard (by rfl) ?_; dsimp only)); at_builtin; refine Kd.R_append (Kd.int .i64) (w0 := w) w.heap.size rfl (.tmp 42) (.tmp 47) 24 3 (.int .i64 0) 8 rfl Try.underlying24 info3 rfl (by decide) (by omega) (.slice Ao38 x5_2.length co38) x5_2 t388 [.int .i64 t388] (fun _ => True) (fun _ => False) rfl rfl ?aP (fun _ hk => hk.elim) ?aF ?aO ?aB ?aS ?aL ?_; (case aP => exact rfl); (case aB => exact (by repeat (first | (with_reducible first | exact HB.out | apply below_alloc | apply pw_below_drewN | apply below_drew1 | refine below_set ?_ GE374.out | refine below_set ?_ GE382.out) | exact HB.out))); (case aF => exact (fun _ _ => trivial)); (case aO => exact (by (with_reducible repeat (first | apply Kd.R_alloc | apply Kd.R_drewN | apply Kd.R_drew)); exact HO_5.out)); (case aS => exact (below_size (by repeat (first | (with_reducible first | exact HB.out | apply below_alloc | apply pw_below_drewN | apply below_drew1 | refine below_set ?_ GE374.out | refine below_set ?_ GE382.out) | exact HB.out)))); (case aL => have := LMc37.out; omega); intro v390 w41 ho hb hg hat; rw [← Ny389.out] at ho; have n0_ := Aside0.mk (Kd.R_over' (by (with_reducible repeat (first | apply Kd.R_alloc | apply Kd.R_drewN | apply Kd.R_drew)); exact HO_375001.out) (Kd.R_typed (by (with_reducible repeat (first | apply Kd.R_alloc | apply Kd.R_drewN | apply Kd.R_drew)); exact HO_5.out)) (by decide) hg); have n1_ := Aside0.mk (Kd.R_over' (by (with_reducible repeat (first | apply Kd.R_alloc | apply Kd.R_drewN | apply Kd.R_drew)); exact HO_383001.out) (Kd.R_typed (by (with_reducible repeat (first | apply Kd.R_alloc | apply Kd.R_drewN | apply Kd.R_drew)); exact HO_5.out)) (by decide) hg); have n2_ := Aside0.mk (blk_grown (g := gb374) (o := .cells #[.int .i64 t370, .slice Ao10 t371.length co10] 28 (0, 0)) (by (with_reducible repeat (first | refine blk_drewN ?_ _ | refine blk_drew ?_ | refine blk_alloc ?_ _)); exact BK374.out) hg (Kd.R_ne HO_5.out BK374.out (by decide))); have n3_ := Aside0.mk (blk_grown (g := gb382) (o := .cells #[.int .i64 t375, .slice Ao15 t376.length co15] 28 (0, 0)) (by (with_reducible repeat (first | refine blk_drewN ?_ _ | refine blk_drew ?_ | refine blk_alloc ?_ _)); exact BK382.out) hg (Kd.R_ne HO_5.out BK382.out (by decide))); have n4_ := Aside0.mk (hb); have n5_ := Aside0.mk (ho); clear HO_375001; clear HO_383001; clear BK374; clear BK382; clear HB; clear HO_5; have HO_375001 := n0_; have HO_383001 := n1_; have BK374 := n2_; have BK382 := n3_; have HB := n4_; have HO391 := n5_; clear n0_ n1_ n2_ n3_ n4_ n5_; clear ho hb hg hat))
                  go_roundg k2
                  case measure => have := HJ5.out; have := HK2.out; omega
                  case rel => exact ⟨(y389), H', ⟨by have := HJ5.out; have := HK2.out; omega⟩, ⟨by (with_reducible repeat (first | apply Kd.R_alloc | apply Kd.R_drewN | apply Kd.R_drew)); exact HO391.out⟩, ⟨by (with_reducible repeat (first | apply Kd.R_alloc | apply Kd.R_drewN | apply Kd.R_drew)); exact HO_375001.out⟩, ⟨by (with_reducible repeat (first | apply Kd.R_alloc | apply Kd.R_drewN | apply Kd.R_drew)); exact HO_383001.out⟩, ⟨by (with_reducible repeat (first | refine blk_drewN ?_ _ | refine blk_drew ?_ | refine blk_alloc ?_ _)); exact BK374.out⟩, ⟨by (with_reducible repeat (first | refine blk_drewN ?_ _ | refine blk_drew ?_ | refine blk_alloc ?_ _)); exact BK382.out⟩, ⟨by repeat (first | (with_reducible first | exact HB.out | apply below_alloc | apply pw_below_drewN | apply below_drew1 | refine below_set ?_ GE374.out | refine below_set ?_ GE382.out) | exact HB.out)⟩⟩
                · rw [if_neg c37] at H
                  exact absurd H (by simp)
              · rw [if_neg c35] at H
                have c35b0 : decide ((x5_2.length : Int) < t370) = false := decide_eq_false c35
                clear c35
                by_cases c42 : 0 ≤ t370
                · rw [if_pos c42] at H
                  have c42b0 := eq_true c42
                  have c42b1 : decide (0 ≤ t370) = true := decide_eq_true c42
                  clear c42
                  by_cases c43 : t370 ≤ (x5_2.length : Int)
                  · rw [if_pos c43] at H
                    have c43b0 := eq_true c43
                    have c43b1 : decide (t370 ≤ (x5_2.length : Int)) = true := decide_eq_true c43
                    clear c43
                    obtain ⟨y392, hy392⟩ : ∃ y_ : List Int, y_ = (x5_2.take (t370 : Int).toNat) := ⟨_, rfl⟩
                    replace H : ((impl_NetSorts.f k2 t370 t371).bind fun t395 => ((impl_NetFault.f k2 t370 t371).bind fun t396 => ((spec_NetSorts.f k2 t370 t371).bind fun t399 => (if (t395 != t399) = true then (laws_FnZeroOne.j2 k2 y392 t395 t396 true t370 t371) else (laws_FnZeroOne.j2 k2 y392 t395 t396 (t395 != ((t396.length : Int) == 0)) t370 t371))))) = some r := by first | (rw [hy392]; with_reducible exact H) | (have H2_ := (Option.bind_some _ _).symm.trans H; rw [hy392]; with_reducible exact H2_) | (have H2_ := (Option.bind_some _ _).symm.trans H; with_reducible exact H2_) | with_reducible exact H | (rw [hy392]; exact H) | exact H
                    have Ny392 := Aside0.mk hy392
                    clear hy392
                    replace H := Option.bind_eq_some_iff.mp H
                    obtain ⟨t395, A440, H⟩ := H
                    replace H : ((impl_NetFault.f k2 t370 t371).bind fun t396 => ((spec_NetSorts.f k2 t370 t371).bind fun t399 => (if (t395 != t399) = true then (laws_FnZeroOne.j2 k2 y392 t395 t396 true t370 t371) else (laws_FnZeroOne.j2 k2 y392 t395 t396 (t395 != ((t396.length : Int) == 0)) t370 t371)))) = some r := H
                    have A44 := Aside0.mk A440
                    clear A440
                    replace H := Option.bind_eq_some_iff.mp H
                    obtain ⟨t396, A450, H⟩ := H
                    replace H : ((spec_NetSorts.f k2 t370 t371).bind fun t399 => (if (t395 != t399) = true then (laws_FnZeroOne.j2 k2 y392 t395 t396 true t370 t371) else (laws_FnZeroOne.j2 k2 y392 t395 t396 (t395 != ((t396.length : Int) == 0)) t370 t371))) = some r := H
                    have A45 := Aside0.mk A450
                    clear A450
                    have HC46 := Aside0.mk H
                    clear H
                    obtain ⟨Ao47, co47, eo47⟩ := Kd.R_slice HO_5.out
                    subst eo47
                    have hnb48 := NB374_382.out
                    have hnc48 := NB382_374.out
                    have hcz49_0 : wr.cell? ⟨gb374, 0, none⟩ = some (.int .i64 t370) := (blk_cell BK374.out 0).trans rfl
                    have hcz49_1 : wr.cell? ⟨gb374, 1, none⟩ = some (.slice Ao10 t371.length co10) := (blk_cell BK374.out 1).trans rfl
                    have hfz49_0 := blk_frozen BK374.out 0
                    have hfz49_1 := blk_frozen BK374.out 1
                    have q50 : (t370 : Int) ≤ ((x5_2.length : Int) : Int) := of_decide_eq_true (by first | (with_reducible assumption) | assumption)
                    obtain ⟨i050, hi050, _, hsz50, _⟩ := info_parts info3
                    have hcut50 := cut_to (P := Try.prog) 24 3 .i64 Try.underlying24 hi050 Ao47 x5_2.length co47 t370 (of_decide_eq_true (by first | (with_reducible assumption) | assumption)) q50 (Kd.R_reads' HO_5.out).2.1
                    have hr50 := Kd.R_take (m := (t370 : Int).toNat) HO_5.out (by omega)
                    have hy50 : y392.length = (t370 : Int).toNat := (by rw [Ny392.out, List.length_take]; omega)
                    rw [← Ny392.out] at hr50
                    rw [← hy50] at hr50 hcut50
                    clear hy50 hi050 hsz50 HO_5
                    have HO394 := Aside0.mk hr50
                    clear hr50
                    replace q50 := eq_true q50
                    go_upto_region 12 with (first | ((with_reducible refine gate_callee (f := 29) rfl ?_); refine goesL_ (some 54) rfl rfl Try.func29 (by kernel_rfl) rfl #[.agg #[.int .i64 t370, .slice Ao10 t371.length co10]] rfl (by (try simp only [List.map_toArray, List.map_cons, List.map_nil]); first | done | rfl | (simp only [List.length_drop, List.length_take]; rfl)) ?_; (with_reducible refine (impl_NetSorts.calls k2 t370 _ _ t371 t395 _ ?side1 ?side2 A44.out).mono ?_); (case side1 => repeat (first | exact (Kd.R_reads' HO_375001.out).2.2 | (with_reducible refine Kd.C_alloc ?_ _) | (with_reducible refine Kd.C_drewN ?_ _) | (with_reducible refine Kd.C_drew ?_))); (case side2 => exact (Kd.R_reads' HO_375001.out).2.1); rintro e w51 ⟨rfl, hb⟩; refine ⟨_, rfl, ?_⟩; have n0_ := Aside0.mk (Kd.R_below (by (with_reducible repeat (first | apply Kd.R_alloc | apply Kd.R_drewN | apply Kd.R_drew)); exact HO394.out) hb); have n1_ := Aside0.mk (Kd.R_below (by (with_reducible repeat (first | apply Kd.R_alloc | apply Kd.R_drewN | apply Kd.R_drew)); exact HO_375001.out) hb); have n2_ := Aside0.mk (Kd.R_below (by (with_reducible repeat (first | apply Kd.R_alloc | apply Kd.R_drewN | apply Kd.R_drew)); exact HO_383001.out) hb); have n3_ := Aside0.mk (blk_below (g := gb374) (o := .cells #[.int .i64 t370, .slice Ao10 t371.length co10] 28 (0, 0)) (by (with_reducible repeat (first | refine blk_drewN ?_ _ | refine blk_drew ?_ | refine blk_alloc ?_ _)); exact BK374.out) hb); have n4_ := Aside0.mk (blk_below (g := gb382) (o := .cells #[.int .i64 t375, .slice Ao15 t376.length co15] 28 (0, 0)) (by (with_reducible repeat (first | refine blk_drewN ?_ _ | refine blk_drew ?_ | refine blk_alloc ?_ _)); exact BK382.out) hb); have n5_ := Aside0.mk (below_step (by repeat (first | (with_reducible first | exact HB.out | apply below_alloc | apply pw_below_drewN | apply below_drew1 | refine below_set ?_ GE374.out | refine below_set ?_ GE382.out) | exact HB.out)) hb); clear HO394; clear HO_375001; clear HO_383001; clear BK374; clear BK382; clear HB; have HO394 := n0_; have HO_375001 := n1_; have HO_383001 := n2_; have BK374 := n3_; have BK382 := n4_; have HB := n5_; clear n0_ n1_ n2_ n3_ n4_ n5_; (try clear hb); (try clear hb2); (try clear hk); (try clear hi); have hcz52_0 : w51.cell? ⟨gb374, 0, none⟩ = some (.int .i64 t370) := (blk_cell BK374.out 0).trans rfl; have hcz52_1 : w51.cell? ⟨gb374, 1, none⟩ = some (.slice Ao10 t371.length co10) := (blk_cell BK374.out 1).trans rfl; have hfz52_0 := blk_frozen BK374.out 0; have hfz52_1 := blk_frozen BK374.out 1) | ((with_reducible refine gate_callee (f := 30) rfl ?_); refine goesL_ (some 56) rfl rfl Try.func30 (by kernel_rfl) rfl #[.agg #[.int .i64 t370, .slice Ao10 t371.length co10]] rfl (by (try simp only [List.map_toArray, List.map_cons, List.map_nil]); first | done | rfl | (simp only [List.length_drop, List.length_take]; rfl)) ?_; (with_reducible refine (impl_NetFault.calls k2 t370 _ _ t371 t396 _ ?side1 ?side2 A45.out).mono ?_); (case side1 => repeat (first | exact (Kd.R_reads' HO_375001.out).2.2 | (with_reducible refine Kd.C_alloc ?_ _) | (with_reducible refine Kd.C_drewN ?_ _) | (with_reducible refine Kd.C_drew ?_))); (case side2 => exact (Kd.R_reads' HO_375001.out).2.1); rintro e w53 ⟨v397, rfl, ho0, hb⟩; refine ⟨_, rfl, ?_⟩; have n0_ := Aside0.mk (Kd.R_elder' (by (with_reducible repeat (first | apply Kd.R_alloc | apply Kd.R_drewN | apply Kd.R_drew)); exact HO394.out) (Kd.R_base ho0) hb); have n1_ := Aside0.mk (Kd.R_below (by (with_reducible repeat (first | apply Kd.R_alloc | apply Kd.R_drewN | apply Kd.R_drew)); exact HO_375001.out) hb); have n2_ := Aside0.mk (Kd.R_below (by (with_reducible repeat (first | apply Kd.R_alloc | apply Kd.R_drewN | apply Kd.R_drew)); exact HO_383001.out) hb); have n3_ := Aside0.mk (Kd.R_lower (Kd.R_new' ho0 (Kd.R_lt (by (with_reducible repeat (first | apply Kd.R_alloc | apply Kd.R_drewN | apply Kd.R_drew)); exact HO394.out))) (below_size (by repeat (first | (with_reducible first | exact HB.out | apply below_alloc | apply pw_below_drewN | apply below_drew1 | refine below_set ?_ GE374.out | refine below_set ?_ GE382.out) | exact HB.out)))); have n4_ := Aside0.mk (blk_below (g := gb374) (o := .cells #[.int .i64 t370, .slice Ao10 t371.length co10] 28 (0, 0)) (by (with_reducible repeat (first | refine blk_drewN ?_ _ | refine blk_drew ?_ | refine blk_alloc ?_ _)); exact BK374.out) hb); have n5_ := Aside0.mk (blk_below (g := gb382) (o := .cells #[.int .i64 t375, .slice Ao15 t376.length co15] 28 (0, 0)) (by (with_reducible repeat (first | refine blk_drewN ?_ _ | refine blk_drew ?_ | refine blk_alloc ?_ _)); exact BK382.out) hb); have n6_ := Aside0.mk (below_step (by repeat (first | (with_reducible first | exact HB.out | apply below_alloc | apply pw_below_drewN | apply below_drew1 | refine below_set ?_ GE374.out | refine below_set ?_ GE382.out) | exact HB.out)) hb); clear HO394; clear HO_375001; clear HO_383001; clear BK374; clear BK382; clear HB; have HO394 := n0_; have HO_375001 := n1_; have HO_383001 := n2_; have HO398 := n3_; have BK374 := n4_; have BK382 := n5_; have HB := n6_; clear n0_ n1_ n2_ n3_ n4_ n5_ n6_; (try clear hb); (try clear hb2); (try clear hk); (try clear hi); (try clear ho0)))
                    (try simp only [Act.put, List.setIfInBounds_toArray, List.set_cons_zero, List.set_cons_succ])
                    go_cut [67] (fun v67 wc => ∃ (kq : Nat) (x67_45 : Bool), v67 = .bool x67_45 ∧ Aside0 (laws_FnZeroOne.j2 kq y392 t395 t396 x67_45 t370 t371 = some r) ∧ Aside0 (kq ≤ k2) ∧ Aside0 (Kd.R (Kd.int .i64) 3 wc w.heap.size (fun k_ => some k_ ≠ (v397 : Value).ownBlock) (.slice Ao47 y392.length co47) y392) ∧ Aside0 (Kd.R (Kd.int .i64) 3 wc w.heap.size (fun k_ => some k_ ≠ ((.slice Ao47 y392.length co47) : Value).ownBlock) v397 t396) ∧ Aside0 (Kd.R k55 55 wc w.heap.size (fun k_ => some k_ ≠ ((.slice Ao15 t376.length co15) : Value).ownBlock) (.slice Ao10 t371.length co10) t371) ∧ Aside0 (Kd.R k55 55 wc w.heap.size (fun k_ => some k_ ≠ ((.slice Ao10 t371.length co10) : Value).ownBlock) (.slice Ao15 t376.length co15) t376) ∧ Aside0 (wc.heap[gb374]? = some (.cells #[.int .i64 t370, (.slice Ao10 t371.length co10)] 28 (0, 0))) ∧ Aside0 (wc.heap[gb382]? = some (.cells #[.int .i64 t375, (.slice Ao15 t376.length co15)] 28 (0, 0))) ∧ Aside0 (Below w.heap.size w wc))
                    case first =>
                      have H := HC46.out
                      clear HC46
                      replace H := Option.bind_eq_some_iff.mp H
                      obtain ⟨t399, A540, H⟩ := H
                      replace H : (if (t395 != t399) = true then (laws_FnZeroOne.j2 k2 y392 t395 t396 true t370 t371) else (laws_FnZeroOne.j2 k2 y392 t395 t396 (t395 != ((t396.length : Int) == 0)) t370 t371)) = some r := H
                      have A54 := Aside0.mk A540
                      clear A540
                      by_cases c55 : (t395 != t399) = true
                      · rw [if_pos c55] at H
                        have c55b0 : (t395 != t399) = true := c55
                        (try (have c55b1 : decide (t395 = t399) = false := by simpa using c55))
                        (try (have c55b2 : (t395 == t399) = false := by simpa using c55))
                        (try (have c55b3 : ¬ (t395 = t399) := by simpa using c55))
                        clear c55
                        (first | rw [c55b0] | (simp only [i64_w, i32_w]; rw [c55b0]) | skip)
                        have H' := Aside0.mk H
                        clear H
                        have hnb56 := NB374_382.out
                        have hnc56 := NB382_374.out
                        have hcz57_0 : w53.cell? ⟨gb374, 0, none⟩ = some (.int .i64 t370) := (blk_cell BK374.out 0).trans rfl
                        have hcz57_1 : w53.cell? ⟨gb374, 1, none⟩ = some (.slice Ao10 t371.length co10) := (blk_cell BK374.out 1).trans rfl
                        have hfz57_0 := blk_frozen BK374.out 0
                        have hfz57_1 := blk_frozen BK374.out 1
                        go_wp2_with (first | ((with_reducible refine gate_callee (f := 31) rfl ?_); refine goesL_ (some 59) rfl rfl Try.func31 (by kernel_rfl) rfl #[.agg #[.int .i64 t370, .slice Ao10 t371.length co10]] rfl (by (try simp only [List.map_toArray, List.map_cons, List.map_nil]); first | done | rfl | (simp only [List.length_drop, List.length_take]; rfl)) ?_; (with_reducible refine (spec_NetSorts.calls k2 t370 _ _ t371 t399 _ ?side1 ?side2 A54.out).mono ?_); (case side1 => repeat (first | exact (Kd.R_reads' HO_375001.out).2.2 | (with_reducible refine Kd.C_alloc ?_ _) | (with_reducible refine Kd.C_drewN ?_ _) | (with_reducible refine Kd.C_drew ?_))); (case side2 => exact (Kd.R_reads' HO_375001.out).2.1); rintro e w58 ⟨rfl, hb⟩; refine ⟨_, rfl, ?_⟩; have n0_ := Aside0.mk (Kd.R_below (by (with_reducible repeat (first | apply Kd.R_alloc | apply Kd.R_drewN | apply Kd.R_drew)); exact HO394.out) hb); have n1_ := Aside0.mk (Kd.R_below (by (with_reducible repeat (first | apply Kd.R_alloc | apply Kd.R_drewN | apply Kd.R_drew)); exact HO_375001.out) hb); have n2_ := Aside0.mk (Kd.R_below (by (with_reducible repeat (first | apply Kd.R_alloc | apply Kd.R_drewN | apply Kd.R_drew)); exact HO_383001.out) hb); have n3_ := Aside0.mk (Kd.R_below (by (with_reducible repeat (first | apply Kd.R_alloc | apply Kd.R_drewN | apply Kd.R_drew)); exact HO398.out) hb); have n4_ := Aside0.mk (blk_below (g := gb374) (o := .cells #[.int .i64 t370, .slice Ao10 t371.length co10] 28 (0, 0)) (by (with_reducible repeat (first | refine blk_drewN ?_ _ | refine blk_drew ?_ | refine blk_alloc ?_ _)); exact BK374.out) hb); have n5_ := Aside0.mk (blk_below (g := gb382) (o := .cells #[.int .i64 t375, .slice Ao15 t376.length co15] 28 (0, 0)) (by (with_reducible repeat (first | refine blk_drewN ?_ _ | refine blk_drew ?_ | refine blk_alloc ?_ _)); exact BK382.out) hb); have n6_ := Aside0.mk (below_step (by repeat (first | (with_reducible first | exact HB.out | apply below_alloc | apply pw_below_drewN | apply below_drew1 | refine below_set ?_ GE374.out | refine below_set ?_ GE382.out) | exact HB.out)) hb); clear HO394; clear HO_375001; clear HO_383001; clear HO398; clear BK374; clear BK382; clear HB; have HO394 := n0_; have HO_375001 := n1_; have HO_383001 := n2_; have HO398 := n3_; have BK374 := n4_; have BK382 := n5_; have HB := n6_; clear n0_ n1_ n2_ n3_ n4_ n5_ n6_; (try clear hb); (try clear hb2); (try clear hk); (try clear hi)))
                        go_meet
                        case rel => exact ⟨_, (true), (by first | rfl | (simp; done) | (simp [*]; done)), H', ⟨by have := HJ5.out; have := HK2.out; first | omega | exact Nat.le_refl _⟩, ⟨by (with_reducible repeat (first | apply Kd.R_alloc | apply Kd.R_drewN | apply Kd.R_drew)); exact Kd.R_mono HO394.out (fun _ hk => by first | exact hk.2 | trivial)⟩, ⟨by (with_reducible repeat (first | apply Kd.R_alloc | apply Kd.R_drewN | apply Kd.R_drew)); exact Kd.R_mono HO398.out (fun _ hk => by first | exact hk.2 | trivial)⟩, ⟨by (with_reducible repeat (first | apply Kd.R_alloc | apply Kd.R_drewN | apply Kd.R_drew)); exact HO_375001.out⟩, ⟨by (with_reducible repeat (first | apply Kd.R_alloc | apply Kd.R_drewN | apply Kd.R_drew)); exact HO_383001.out⟩, ⟨by (with_reducible repeat (first | refine blk_drewN ?_ _ | refine blk_drew ?_ | refine blk_alloc ?_ _)); exact BK374.out⟩, ⟨by (with_reducible repeat (first | refine blk_drewN ?_ _ | refine blk_drew ?_ | refine blk_alloc ?_ _)); exact BK382.out⟩, ⟨by repeat (first | (with_reducible first | exact HB.out | apply below_alloc | apply pw_below_drewN | apply below_drew1 | refine below_set ?_ GE374.out | refine below_set ?_ GE382.out) | exact HB.out)⟩⟩
                      · rw [if_neg c55] at H
                        have c55b0 : (t395 != t399) = false := by simpa using c55
                        (try (have c55b1 : decide (t395 = t399) = true := by simpa using c55))
                        (try (have c55b2 : (t395 == t399) = true := by simpa using c55))
                        clear c55
                        (first | rw [c55b0] | (simp only [i64_w, i32_w]; rw [c55b0]) | skip)
                        have H' := Aside0.mk H
                        clear H
                        have hnb59 := NB374_382.out
                        have hnc59 := NB382_374.out
                        have hcz60_0 : w53.cell? ⟨gb374, 0, none⟩ = some (.int .i64 t370) := (blk_cell BK374.out 0).trans rfl
                        have hcz60_1 : w53.cell? ⟨gb374, 1, none⟩ = some (.slice Ao10 t371.length co10) := (blk_cell BK374.out 1).trans rfl
                        have hfz60_0 := blk_frozen BK374.out 0
                        have hfz60_1 := blk_frozen BK374.out 1
                        go_wp2_with (first | ((with_reducible refine gate_callee (f := 31) rfl ?_); refine goesL_ (some 59) rfl rfl Try.func31 (by kernel_rfl) rfl #[.agg #[.int .i64 t370, .slice Ao10 t371.length co10]] rfl (by (try simp only [List.map_toArray, List.map_cons, List.map_nil]); first | done | rfl | (simp only [List.length_drop, List.length_take]; rfl)) ?_; (with_reducible refine (spec_NetSorts.calls k2 t370 _ _ t371 t399 _ ?side1 ?side2 A54.out).mono ?_); (case side1 => repeat (first | exact (Kd.R_reads' HO_375001.out).2.2 | (with_reducible refine Kd.C_alloc ?_ _) | (with_reducible refine Kd.C_drewN ?_ _) | (with_reducible refine Kd.C_drew ?_))); (case side2 => exact (Kd.R_reads' HO_375001.out).2.1); rintro e w61 ⟨rfl, hb⟩; refine ⟨_, rfl, ?_⟩; have n0_ := Aside0.mk (Kd.R_below (by (with_reducible repeat (first | apply Kd.R_alloc | apply Kd.R_drewN | apply Kd.R_drew)); exact HO394.out) hb); have n1_ := Aside0.mk (Kd.R_below (by (with_reducible repeat (first | apply Kd.R_alloc | apply Kd.R_drewN | apply Kd.R_drew)); exact HO_375001.out) hb); have n2_ := Aside0.mk (Kd.R_below (by (with_reducible repeat (first | apply Kd.R_alloc | apply Kd.R_drewN | apply Kd.R_drew)); exact HO_383001.out) hb); have n3_ := Aside0.mk (Kd.R_below (by (with_reducible repeat (first | apply Kd.R_alloc | apply Kd.R_drewN | apply Kd.R_drew)); exact HO398.out) hb); have n4_ := Aside0.mk (blk_below (g := gb374) (o := .cells #[.int .i64 t370, .slice Ao10 t371.length co10] 28 (0, 0)) (by (with_reducible repeat (first | refine blk_drewN ?_ _ | refine blk_drew ?_ | refine blk_alloc ?_ _)); exact BK374.out) hb); have n5_ := Aside0.mk (blk_below (g := gb382) (o := .cells #[.int .i64 t375, .slice Ao15 t376.length co15] 28 (0, 0)) (by (with_reducible repeat (first | refine blk_drewN ?_ _ | refine blk_drew ?_ | refine blk_alloc ?_ _)); exact BK382.out) hb); have n6_ := Aside0.mk (below_step (by repeat (first | (with_reducible first | exact HB.out | apply below_alloc | apply pw_below_drewN | apply below_drew1 | refine below_set ?_ GE374.out | refine below_set ?_ GE382.out) | exact HB.out)) hb); clear HO394; clear HO_375001; clear HO_383001; clear HO398; clear BK374; clear BK382; clear HB; have HO394 := n0_; have HO_375001 := n1_; have HO_383001 := n2_; have HO398 := n3_; have BK374 := n4_; have BK382 := n5_; have HB := n6_; clear n0_ n1_ n2_ n3_ n4_ n5_ n6_; (try clear hb); (try clear hb2); (try clear hk); (try clear hi); obtain ⟨Ao62, co62, eo62⟩ := Kd.R_slice HO398.out; subst eo62))
                        go_meet
                        case rel => exact ⟨_, ((t395 != ((t396.length : Int) == 0))), (by first | rfl | (simp; done) | (simp [*]; done)), H', ⟨by have := HJ5.out; have := HK2.out; first | omega | exact Nat.le_refl _⟩, ⟨by (with_reducible repeat (first | apply Kd.R_alloc | apply Kd.R_drewN | apply Kd.R_drew)); exact Kd.R_mono HO394.out (fun _ hk => by first | exact hk.2 | trivial)⟩, ⟨by (with_reducible repeat (first | apply Kd.R_alloc | apply Kd.R_drewN | apply Kd.R_drew)); exact Kd.R_mono HO398.out (fun _ hk => by first | exact hk.2 | trivial)⟩, ⟨by (with_reducible repeat (first | apply Kd.R_alloc | apply Kd.R_drewN | apply Kd.R_drew)); exact HO_375001.out⟩, ⟨by (with_reducible repeat (first | apply Kd.R_alloc | apply Kd.R_drewN | apply Kd.R_drew)); exact HO_383001.out⟩, ⟨by (with_reducible repeat (first | refine blk_drewN ?_ _ | refine blk_drew ?_ | refine blk_alloc ?_ _)); exact BK374.out⟩, ⟨by (with_reducible repeat (first | refine blk_drewN ?_ _ | refine blk_drew ?_ | refine blk_alloc ?_ _)); exact BK382.out⟩, ⟨by repeat (first | (with_reducible first | exact HB.out | apply below_alloc | apply pw_below_drewN | apply below_drew1 | refine below_set ?_ GE374.out | refine below_set ?_ GE382.out) | exact HB.out)⟩⟩
                    case rest =>
                      clear HC46
                      try clear c1
                      try clear c2
                      try clear p2
                      try clear c3
                      try clear c4
                      try clear c5
                      try clear q5
                      try clear c6
                      try clear c7
                      try clear c8
                      try clear c13
                      try clear c14
                      try clear c17
                      try clear c18
                      try clear c22
                      try clear c25
                      try clear c27
                      try clear c28
                      try clear c29
                      try clear c30
                      try clear c31
                      try clear c35
                      try clear c35b0
                      try clear c37
                      try clear c39
                      try clear c42
                      try clear c42b0
                      try clear c42b1
                      try clear c43
                      try clear c43b0
                      try clear c43b1
                      try clear c48
                      try clear q50
                      try clear c55
                      try clear c55b0
                      try clear c55b1
                      try clear c55b2
                      try clear c56
                      try clear c59
                      try clear hcz14_0
                      try clear hcz14_1
                      try clear hcz19_0
                      try clear hcz19_1
                      try clear hcz21_0
                      try clear hcz21_1
                      try clear hcz23_0
                      try clear hcz23_1
                      try clear hcz30_0
                      try clear hcz30_1
                      try clear hcz32_0
                      try clear hcz32_1
                      try clear hcz40_0
                      try clear hcz40_1
                      try clear hcz49_0
                      try clear hcz49_1
                      try clear hcz52_0
                      try clear hcz52_1
                      try clear hcz57_0
                      try clear hcz57_1
                      try clear hcz60_0
                      try clear hcz60_1
                      try clear hcz9_0
                      try clear hcz9_1
                      try clear hfz14_0
                      try clear hfz14_1
                      try clear hfz19_0
                      try clear hfz19_1
                      try clear hfz21_0
                      try clear hfz21_1
                      try clear hfz23_0
                      try clear hfz23_1
                      try clear hfz30_0
                      try clear hfz30_1
                      try clear hfz32_0
                      try clear hfz32_1
                      try clear hfz40_0
                      try clear hfz40_1
                      try clear hfz49_0
                      try clear hfz49_1
                      try clear hfz52_0
                      try clear hfz52_1
                      try clear hfz57_0
                      try clear hfz57_1
                      try clear hfz60_0
                      try clear hfz60_1
                      try clear hfz9_0
                      try clear hfz9_1
                      try clear p2
                      try clear q50
                      obtain ⟨kq, x67_45, rfl, HA, HJ45, HO_5, HO_7, HO_375001, HO_383001, BK374, BK382, HB⟩ := hcut
                      cases kq with
                      | zero => exact absurd HA.out (by simp [laws_FnZeroOne.j2])
                      | succ kj45 =>
                        have H := HA.out
                        clear HA
                        simp only [laws_FnZeroOne.j2] at H
                        by_cases c63 : x67_45 = true
                        · subst c63
                          have H1 : (some false) = some r := by rw [if_pos rfl] at H; exact H
                          clear H
                          have H := H1
                          clear H1
                          exact absurd ((Option.some.inj H).trans HTRUE_.out) (by decide)
                        · replace c63 := Bool.eq_false_iff.mpr c63
                          subst c63
                          have H1 : (if t395 = true then ((impl_NetRun.f t370 t371 y392).bind fun t400 => ((laws_sorted.f kj45 t400).bind fun t403 => (if t403 = true then ((impl_NetRun.f t370 t371 y392).bind fun t404 => (some ((t404.length : Int) == t370))) else (some false)))) else ((some (([] : List Int) : List Int)).bind fun y407 => (if y407.length + t396.length < 17592186044416 then ((impl_NetRun.f t370 t371 (y407 ++ t396)).bind fun t413 => (if (t413.length : Int) = t370 then ((laws_sorted.f kj45 t413).bind fun t416 => (laws_FnZeroOne.j3 kj45 t396 t416 t370 t371)) else (laws_FnZeroOne.j3 kj45 t396 true t370 t371))) else (none)))) = some r := by rw [if_neg (show ¬ (false = true) by decide)] at H; exact H
                          clear H
                          have H := H1
                          clear H1
                          by_cases c64 : t395 = true
                          · subst c64
                            have H1 : ((impl_NetRun.f t370 t371 y392).bind fun t400 => ((laws_sorted.f kj45 t400).bind fun t403 => (if t403 = true then ((impl_NetRun.f t370 t371 y392).bind fun t404 => (some ((t404.length : Int) == t370))) else (some false)))) = some r := by rw [if_pos rfl] at H; exact H
                            clear H
                            have H := H1
                            clear H1
                            replace H := Option.bind_eq_some_iff.mp H
                            obtain ⟨t400, A650, H⟩ := H
                            replace H : ((laws_sorted.f kj45 t400).bind fun t403 => (if t403 = true then ((impl_NetRun.f t370 t371 y392).bind fun t404 => (some ((t404.length : Int) == t370))) else (some false))) = some r := H
                            have A65 := Aside0.mk A650
                            clear A650
                            replace H := Option.bind_eq_some_iff.mp H
                            obtain ⟨t403, A660, H⟩ := H
                            replace H : (if t403 = true then ((impl_NetRun.f t370 t371 y392).bind fun t404 => (some ((t404.length : Int) == t370))) else (some false)) = some r := H
                            have A66 := Aside0.mk A660
                            clear A660
                            by_cases c67 : t403 = true
                            · subst c67
                              have H1 : ((impl_NetRun.f t370 t371 y392).bind fun t404 => (some ((t404.length : Int) == t370))) = some r := by rw [if_pos rfl] at H; exact H
                              clear H
                              have H := H1
                              clear H1
                              replace H := Option.bind_eq_some_iff.mp H
                              obtain ⟨t404, A680, H⟩ := H
                              replace H : (some ((t404.length : Int) == t370)) = some r := H
                              have A68 := Aside0.mk A680
                              clear A680
                              obtain rfl := Option.some.inj H
                              try go_wp2
                              have n0_ := Aside0.mk (Kd.R_drew HO_5.out)
                              have n1_ := Aside0.mk (Kd.R_drew HO_7.out)
                              have n2_ := Aside0.mk (Kd.R_drew HO_375001.out)
                              have n3_ := Aside0.mk (Kd.R_drew HO_383001.out)
                              have n4_ := Aside0.mk (blk_drew BK374.out)
                              have n5_ := Aside0.mk (blk_drew BK382.out)
                              have n6_ := Aside0.mk (below_drew1 HB.out)
                              clear HO_5
                              clear HO_7
                              clear HO_375001
                              clear HO_383001
                              clear BK374
                              clear BK382
                              clear HB
                              have HO_5 := n0_
                              have HO_7 := n1_
                              have HO_375001 := n2_
                              have HO_383001 := n3_
                              have BK374 := n4_
                              have BK382 := n5_
                              have HB := n6_
                              clear n0_ n1_ n2_ n3_ n4_ n5_ n6_
                              refine start_ (n := 14) (S := fun w' => w'.cell? ⟨gb374, 0, none⟩ = some (.int .i64 t370) ∧ w'.cell? ⟨gb374, 1, none⟩ = some (.slice Ao10 t371.length co10)) (ds := []) #[false, false, false, false, false, false, false, false, false, false, false, false, false, false] (by kernel_rfl) rfl rfl ⟨(blk_cell BK374.out 0).trans rfl, (blk_cell BK374.out 1).trans rfl⟩ (fun hHeld => ?_); refine with_tabW laws_FnZeroOne.tab15 laws_FnZeroOne.bits15 (fun HT_ HW_ => ?_)
                              generalize wc.drew = w69 at HO_5 HO_7 HO_375001 HO_383001 BK374 BK382 HB hHeld ⊢
                              refine pure_ (i := 1) (N := some 70) (v := ?_) (a' := ?_) #[false, true, false, false, false, false, false, false, false, false, false, false, false, false] rfl rfl (any_of HT_.out (by kernel_rfl)) (fun _ _ _ h => h) (Or.inl ⟨by rfl, ?_⟩) ?_ ?_
                              rotate_left
                              · intro w'
                                go_simp
                                with_reducible rfl
                              rotate_left
                              · simp only [Act.put, List.setIfInBounds_toArray, List.set_cons_zero, List.set_cons_succ, i64_w, i32_w]
                                rfl
                              refine take_ (i := 0) (N := some 69) (v := ?_) (a' := ?_) #[true, true, false, false, false, false, false, false, false, false, false, false, false, false] rfl rfl (take_ofW HT_.out HW_.out (by kernel_rfl)) (fun _ _ _ h => h) (Or.inl ⟨by rfl, ?_⟩) hHeld ?_ ?_
                              rotate_left
                              · rintro w' ⟨s0, s1⟩
                                go_simp
                                with_reducible rfl
                              rotate_left
                              · simp only [Act.put, List.setIfInBounds_toArray, List.set_cons_zero, List.set_cons_succ, i64_w, i32_w]
                                rfl
                              refine one_ (i := 2) (N := some 71) #[true, true, true, false, false, false, false, false, false, false, false, false, false, false] rfl rfl (one_of HT_.out (by kernel_rfl)) (by decide) (fun K hK => ?_)
                              refine goes_ Try.func12 (by kernel_rfl) rfl #[.agg #[.int .i64 t370, .slice Ao10 t371.length co10], .slice Ao47 y392.length co47] (by rfl) rfl rfl (by (try simp only [List.map_toArray, List.map_cons, List.map_nil]); first | done | rfl | (simp only [List.length_drop, List.length_take]; rfl)) ?_
                              with_reducible refine (impl_NetRun.calls t370 _ _ t371 _ _ y392 t400 _ ?side1 ?side2 ?side3 ?side4 A65.out).mono ?_
                              (case side1 => repeat (first | exact (Kd.R_reads' HO_375001.out).2.2 | (with_reducible refine Kd.C_alloc ?_ _) | (with_reducible refine Kd.C_drewN ?_ _) | (with_reducible refine Kd.C_drew ?_)))
                              (case side2 => exact (Kd.R_reads' HO_375001.out).2.1)
                              (case side3 => repeat (first | exact (Kd.R_reads' HO_5.out).2.2 | (with_reducible refine Kd.C_alloc ?_ _) | (with_reducible refine Kd.C_drewN ?_ _) | (with_reducible refine Kd.C_drew ?_)))
                              (case side4 => exact (Kd.R_reads' HO_5.out).2.1)
                              rintro e w70 ⟨v401, rfl, ho0, hb⟩
                              refine ⟨_, rfl, ?_⟩
                              have n0_ := Aside0.mk (Kd.R_elder' (by (with_reducible repeat (first | apply Kd.R_alloc | apply Kd.R_drewN | apply Kd.R_drew)); exact HO_5.out) (Kd.R_base ho0) hb)
                              have n1_ := Aside0.mk (Kd.R_elder' (by (with_reducible repeat (first | apply Kd.R_alloc | apply Kd.R_drewN | apply Kd.R_drew)); exact HO_7.out) (Kd.R_base ho0) hb)
                              have n2_ := Aside0.mk (Kd.R_below (by (with_reducible repeat (first | apply Kd.R_alloc | apply Kd.R_drewN | apply Kd.R_drew)); exact HO_375001.out) hb)
                              have n3_ := Aside0.mk (Kd.R_below (by (with_reducible repeat (first | apply Kd.R_alloc | apply Kd.R_drewN | apply Kd.R_drew)); exact HO_383001.out) hb)
                              have n4_ := Aside0.mk (Kd.R_lower (Kd.R_new' (Kd.R_new' ho0 (Kd.R_lt (by (with_reducible repeat (first | apply Kd.R_alloc | apply Kd.R_drewN | apply Kd.R_drew)); exact HO_5.out))) (Kd.R_lt (by (with_reducible repeat (first | apply Kd.R_alloc | apply Kd.R_drewN | apply Kd.R_drew)); exact HO_7.out))) (below_size (by repeat (first | (with_reducible first | exact HB.out | apply below_alloc | apply pw_below_drewN | apply below_drew1 | refine below_set ?_ GE374.out | refine below_set ?_ GE382.out) | exact HB.out))))
                              have n5_ := Aside0.mk (blk_below (g := gb374) (o := .cells #[.int .i64 t370, .slice Ao10 t371.length co10] 28 (0, 0)) (by (with_reducible repeat (first | refine blk_drewN ?_ _ | refine blk_drew ?_ | refine blk_alloc ?_ _)); exact BK374.out) hb)
                              have n6_ := Aside0.mk (blk_below (g := gb382) (o := .cells #[.int .i64 t375, .slice Ao15 t376.length co15] 28 (0, 0)) (by (with_reducible repeat (first | refine blk_drewN ?_ _ | refine blk_drew ?_ | refine blk_alloc ?_ _)); exact BK382.out) hb)
                              have n7_ := Aside0.mk (below_step (by repeat (first | (with_reducible first | exact HB.out | apply below_alloc | apply pw_below_drewN | apply below_drew1 | refine below_set ?_ GE374.out | refine below_set ?_ GE382.out) | exact HB.out)) hb)
                              clear HO_5
                              clear HO_7
                              clear HO_375001
                              clear HO_383001
                              clear BK374
                              clear BK382
                              clear HB
                              have HO_5 := n0_
                              have HO_7 := n1_
                              have HO_375001 := n2_
                              have HO_383001 := n3_
                              have HO402 := n4_
                              have BK374 := n5_
                              have BK382 := n6_
                              have HB := n7_
                              clear n0_ n1_ n2_ n3_ n4_ n5_ n6_ n7_
                              (try clear hb)
                              (try clear hb2)
                              (try clear hk)
                              (try clear hi)
                              (try clear ho0)
                              obtain ⟨Ao71, co71, eo71⟩ := Kd.R_slice HO402.out
                              (first | subst eo71 | (injection eo71 with f1_ f2_ f3_; have f4_ := f1_.symm; have f5_ := f3_.symm; clear f1_ f2_ f3_; subst f4_; subst f5_))
                              refine hK.out _ _ ⟨(blk_cell BK374.out 0).trans rfl, (blk_cell BK374.out 1).trans rfl⟩ (fun hHeld => ?_)
                              clear hK K
                              refine norm_ (a' := ?_) ?_ ?_
                              rotate_left
                              · show Act.put _ (some 71) _ = _
                                simp only [Act.put, List.setIfInBounds_toArray, List.set_cons_zero, List.set_cons_succ, i64_w, i32_w]
                                rfl
                              refine one_ (i := 3) (N := some 72) #[true, true, true, true, false, false, false, false, false, false, false, false, false, false] rfl rfl (one_of HT_.out (by kernel_rfl)) (by decide) (fun K hK => ?_)
                              refine goes_ Try.func13 (by kernel_rfl) rfl #[.slice Ao71 t400.length co71] (by rfl) rfl rfl (by (try simp only [List.map_toArray, List.map_cons, List.map_nil]); first | done | rfl | (simp only [List.length_drop, List.length_take]; rfl)) ?_
                              with_reducible refine (laws_sorted.calls kj45 _ _ t400 true _ ?side1 ?side2 A66.out).mono ?_
                              (case side1 => repeat (first | exact (Kd.R_reads' HO402.out).2.2 | (with_reducible refine Kd.C_alloc ?_ _) | (with_reducible refine Kd.C_drewN ?_ _) | (with_reducible refine Kd.C_drew ?_)))
                              (case side2 => exact (Kd.R_reads' HO402.out).2.1)
                              rintro e w' ⟨rfl, ⟨nd, rfl⟩⟩
                              refine ⟨_, rfl, ?_⟩
                              refine hK.out _ _ ⟨(blk_cell BK374.out 0).trans rfl, (blk_cell BK374.out 1).trans rfl⟩ (fun hHeld => ?_)
                              clear hK K
                              refine norm_ (a' := ?_) ?_ ?_
                              rotate_left
                              · show Act.put _ (some 72) _ = _
                                simp only [Act.put, List.setIfInBounds_toArray, List.set_cons_zero, List.set_cons_succ, i64_w, i32_w]
                                rfl
                              refine pure_ (i := 4) (N := some 73) (v := ?_) (a' := ?_) #[true, true, true, true, true, false, false, false, false, false, false, false, false, false] rfl rfl (any_of HT_.out (by kernel_rfl)) (fun _ _ _ h => h) (Or.inl ⟨by rfl, ?_⟩) ?_ ?_
                              rotate_left
                              · intro w'
                                go_simp
                                with_reducible rfl
                              rotate_left
                              · simp only [Act.put, List.setIfInBounds_toArray, List.set_cons_zero, List.set_cons_succ, i64_w, i32_w]
                                rfl
                              refine pure_ (i := 6) (N := some 75) (v := ?_) (a' := ?_) #[true, true, true, true, true, false, true, false, false, false, false, false, false, false] rfl rfl (any_of HT_.out (by kernel_rfl)) (fun _ _ _ h => h) (Or.inl ⟨by rfl, ?_⟩) ?_ ?_
                              rotate_left
                              · intro w'
                                go_simp
                                with_reducible rfl
                              rotate_left
                              · simp only [Act.put, List.setIfInBounds_toArray, List.set_cons_zero, List.set_cons_succ, i64_w, i32_w]
                                rfl
                              refine pure_ (i := 9) (N := some 78) (v := ?_) (a' := ?_) #[true, true, true, true, true, false, true, false, false, true, false, false, false, false] rfl rfl (any_of HT_.out (by kernel_rfl)) (fun _ _ _ h => h) (Or.inl ⟨by rfl, ?_⟩) ?_ ?_
                              rotate_left
                              · intro w'
                                go_simp
                                with_reducible rfl
                              rotate_left
                              · simp only [Act.put, List.setIfInBounds_toArray, List.set_cons_zero, List.set_cons_succ, i64_w, i32_w]
                                rfl
                              refine take_ (i := 5) (N := some 74) (v := ?_) (a' := ?_) #[true, true, true, true, true, true, true, false, false, true, false, false, false, false] rfl rfl (take_ofW HT_.out HW_.out (by kernel_rfl)) (fun _ _ _ h => h) (Or.inl ⟨by rfl, ?_⟩) hHeld ?_ ?_
                              rotate_left
                              · rintro w' ⟨s0, s1⟩
                                go_simp
                                with_reducible rfl
                              rotate_left
                              · simp only [Act.put, List.setIfInBounds_toArray, List.set_cons_zero, List.set_cons_succ, i64_w, i32_w]
                                rfl
                              refine take_ (i := 10) (N := some 79) (v := ?_) (a' := ?_) #[true, true, true, true, true, true, true, false, false, true, true, false, false, false] rfl rfl (take_ofW HT_.out HW_.out (by kernel_rfl)) (fun _ _ _ h => h) (Or.inl ⟨by rfl, ?_⟩) hHeld ?_ ?_
                              rotate_left
                              · rintro w' ⟨s0, s1⟩
                                go_simp
                                with_reducible rfl
                              rotate_left
                              · simp only [Act.put, List.setIfInBounds_toArray, List.set_cons_zero, List.set_cons_succ, i64_w, i32_w]
                                rfl
                              refine one_ (i := 7) (N := some 76) #[true, true, true, true, true, true, true, true, false, true, true, false, false, false] rfl rfl (one_of HT_.out (by kernel_rfl)) (by decide) (fun K hK => ?_)
                              refine goes_ Try.func12 (by kernel_rfl) rfl #[.agg #[.int .i64 t370, .slice Ao10 t371.length co10], .slice Ao47 y392.length co47] (by rfl) rfl rfl (by (try simp only [List.map_toArray, List.map_cons, List.map_nil]); first | done | rfl | (simp only [List.length_drop, List.length_take]; rfl)) ?_
                              with_reducible refine (impl_NetRun.calls t370 _ _ t371 _ _ y392 t404 _ ?side1 ?side2 ?side3 ?side4 A68.out).mono ?_
                              (case side1 => repeat (first | exact (Kd.R_reads' HO_375001.out).2.2 | (with_reducible refine Kd.C_alloc ?_ _) | (with_reducible refine Kd.C_drewN ?_ _) | (with_reducible refine Kd.C_drew ?_)))
                              (case side2 => exact (Kd.R_reads' HO_375001.out).2.1)
                              (case side3 => repeat (first | exact (Kd.R_reads' HO_5.out).2.2 | (with_reducible refine Kd.C_alloc ?_ _) | (with_reducible refine Kd.C_drewN ?_ _) | (with_reducible refine Kd.C_drew ?_)))
                              (case side4 => exact (Kd.R_reads' HO_5.out).2.1)
                              rintro e w72 ⟨v405, rfl, ho0, hb⟩
                              refine ⟨_, rfl, ?_⟩
                              have n0_ := Aside0.mk (Kd.R_elder' (by (with_reducible repeat (first | apply Kd.R_alloc | apply Kd.R_drewN | apply Kd.R_drew)); exact HO_5.out) (Kd.R_base ho0) hb)
                              have n1_ := Aside0.mk (Kd.R_elder' (by (with_reducible repeat (first | apply Kd.R_alloc | apply Kd.R_drewN | apply Kd.R_drew)); exact HO_7.out) (Kd.R_base ho0) hb)
                              have n2_ := Aside0.mk (Kd.R_below (by (with_reducible repeat (first | apply Kd.R_alloc | apply Kd.R_drewN | apply Kd.R_drew)); exact HO_375001.out) hb)
                              have n3_ := Aside0.mk (Kd.R_below (by (with_reducible repeat (first | apply Kd.R_alloc | apply Kd.R_drewN | apply Kd.R_drew)); exact HO_383001.out) hb)
                              have n4_ := Aside0.mk (Kd.R_elder' (by (with_reducible repeat (first | apply Kd.R_alloc | apply Kd.R_drewN | apply Kd.R_drew)); exact HO402.out) (Kd.R_base ho0) hb)
                              have n5_ := Aside0.mk (Kd.R_lower (Kd.R_new' (Kd.R_new' (Kd.R_new' ho0 (Kd.R_lt (by (with_reducible repeat (first | apply Kd.R_alloc | apply Kd.R_drewN | apply Kd.R_drew)); exact HO_5.out))) (Kd.R_lt (by (with_reducible repeat (first | apply Kd.R_alloc | apply Kd.R_drewN | apply Kd.R_drew)); exact HO_7.out))) (Kd.R_lt (by (with_reducible repeat (first | apply Kd.R_alloc | apply Kd.R_drewN | apply Kd.R_drew)); exact HO402.out))) (below_size (by repeat (first | (with_reducible first | exact HB.out | apply below_alloc | apply pw_below_drewN | apply below_drew1 | refine below_set ?_ GE374.out | refine below_set ?_ GE382.out) | exact HB.out))))
                              have n6_ := Aside0.mk (blk_below (g := gb374) (o := .cells #[.int .i64 t370, .slice Ao10 t371.length co10] 28 (0, 0)) (by (with_reducible repeat (first | refine blk_drewN ?_ _ | refine blk_drew ?_ | refine blk_alloc ?_ _)); exact BK374.out) hb)
                              have n7_ := Aside0.mk (blk_below (g := gb382) (o := .cells #[.int .i64 t375, .slice Ao15 t376.length co15] 28 (0, 0)) (by (with_reducible repeat (first | refine blk_drewN ?_ _ | refine blk_drew ?_ | refine blk_alloc ?_ _)); exact BK382.out) hb)
                              have n8_ := Aside0.mk (below_step (by repeat (first | (with_reducible first | exact HB.out | apply below_alloc | apply pw_below_drewN | apply below_drew1 | refine below_set ?_ GE374.out | refine below_set ?_ GE382.out) | exact HB.out)) hb)
                              clear HO_5
                              clear HO_7
                              clear HO_375001
                              clear HO_383001
                              clear HO402
                              clear BK374
                              clear BK382
                              clear HB
                              have HO_5 := n0_
                              have HO_7 := n1_
                              have HO_375001 := n2_
                              have HO_383001 := n3_
                              have HO402 := n4_
                              have HO406 := n5_
                              have BK374 := n6_
                              have BK382 := n7_
                              have HB := n8_
                              clear n0_ n1_ n2_ n3_ n4_ n5_ n6_ n7_ n8_
                              (try clear hb)
                              (try clear hb2)
                              (try clear hk)
                              (try clear hi)
                              (try clear ho0)
                              obtain ⟨Ao73, co73, eo73⟩ := Kd.R_slice HO406.out
                              (first | subst eo73 | (injection eo73 with f1_ f2_ f3_; have f4_ := f1_.symm; have f5_ := f3_.symm; clear f1_ f2_ f3_; subst f4_; subst f5_))
                              refine hK.out _ _ ⟨(blk_cell BK374.out 0).trans rfl, (blk_cell BK374.out 1).trans rfl⟩ (fun hHeld => ?_)
                              clear hK K
                              refine norm_ (a' := ?_) ?_ ?_
                              rotate_left
                              · show Act.put _ (some 76) _ = _
                                simp only [Act.put, List.setIfInBounds_toArray, List.set_cons_zero, List.set_cons_succ, i64_w, i32_w]
                                rfl
                              refine pure_ (i := 8) (N := some 77) (v := ?_) (a' := ?_) #[true, true, true, true, true, true, true, true, true, true, true, false, false, false] rfl rfl (any_of HT_.out (by kernel_rfl)) (fun _ _ _ h => h) (Or.inl ⟨by rfl, ?_⟩) ?_ ?_
                              rotate_left
                              · intro w'
                                go_simp
                                with_reducible rfl
                              rotate_left
                              · simp only [Act.put, List.setIfInBounds_toArray, List.set_cons_zero, List.set_cons_succ, i64_w, i32_w]
                                rfl
                              refine pure_ (i := 11) (N := some 80) (v := ?_) (a' := ?_) #[true, true, true, true, true, true, true, true, true, true, true, true, false, false] rfl rfl (any_of HT_.out (by kernel_rfl)) (fun _ _ _ h => h) (Or.inl ⟨by rfl, ?_⟩) ?_ ?_
                              rotate_left
                              · intro w'
                                go_simp
                                with_reducible rfl
                              rotate_left
                              · simp only [Act.put, List.setIfInBounds_toArray, List.set_cons_zero, List.set_cons_succ, i64_w, i32_w]
                                rfl
                              refine pure_ (i := 12) (N := some 81) (v := ?_) (a' := ?_) #[true, true, true, true, true, true, true, true, true, true, true, true, true, false] rfl rfl (any_of HT_.out (by kernel_rfl)) (fun _ _ _ h => h) (Or.inl ⟨by rfl, ?_⟩) ?_ ?_
                              rotate_left
                              · intro w'
                                go_simp
                                with_reducible rfl
                              rotate_left
                              · simp only [Act.put, List.setIfInBounds_toArray, List.set_cons_zero, List.set_cons_succ, i64_w, i32_w]
                                rfl
                              refine pure_ (i := 13) (N := some 2) (v := ?_) (a' := ?_) #[true, true, true, true, true, true, true, true, true, true, true, true, true, true] rfl rfl (any_of HT_.out (by kernel_rfl)) (fun _ _ _ h => h) (Or.inl ⟨by rfl, ?_⟩) ?_ ?_
                              rotate_left
                              · intro w'
                                go_simp
                                with_reducible rfl
                              rotate_left
                              · simp only [Act.put, List.setIfInBounds_toArray, List.set_cons_zero, List.set_cons_succ, i64_w, i32_w]
                                rfl
                              refine done_ (done_of HT_.out (by kernel_rfl)) ?_
                              try go_wp2
                              go_ret
                              exact ⟨by first | rfl | (simp [errW_none, errW_some] <;> rfl) | (simp [*, errW_none, errW_some] <;> rfl), by repeat (first | (with_reducible first | exact HB.out | apply below_alloc | apply pw_below_drewN | apply below_drew1 | refine below_set ?_ GE374.out | refine below_set ?_ GE382.out) | exact HB.out)⟩
                            · replace c67 := Bool.eq_false_iff.mpr c67
                              subst c67
                              have H1 : (some false) = some r := by rw [if_neg (show ¬ (false = true) by decide)] at H; exact H
                              clear H
                              have H := H1
                              clear H1
                              exact absurd ((Option.some.inj H).trans HTRUE_.out) (by decide)
                          · replace c64 := Bool.eq_false_iff.mpr c64
                            subst c64
                            have H1 : ((some (([] : List Int) : List Int)).bind fun y407 => (if y407.length + t396.length < 17592186044416 then ((impl_NetRun.f t370 t371 (y407 ++ t396)).bind fun t413 => (if (t413.length : Int) = t370 then ((laws_sorted.f kj45 t413).bind fun t416 => (laws_FnZeroOne.j3 kj45 t396 t416 t370 t371)) else (laws_FnZeroOne.j3 kj45 t396 true t370 t371))) else (none))) = some r := by rw [if_neg (show ¬ (false = true) by decide)] at H; exact H
                            clear H
                            have H := H1
                            clear H1
                            obtain ⟨y407, hy407⟩ : ∃ y_ : List Int, y_ = (([] : List Int)) := ⟨_, rfl⟩
                            replace H : (if y407.length + t396.length < 17592186044416 then ((impl_NetRun.f t370 t371 (y407 ++ t396)).bind fun t413 => (if (t413.length : Int) = t370 then ((laws_sorted.f kj45 t413).bind fun t416 => (laws_FnZeroOne.j3 kj45 t396 t416 t370 t371)) else (laws_FnZeroOne.j3 kj45 t396 true t370 t371))) else (none)) = some r := by first | (rw [hy407]; with_reducible exact H) | (have H2_ := (Option.bind_some _ _).symm.trans H; rw [hy407]; with_reducible exact H2_) | (have H2_ := (Option.bind_some _ _).symm.trans H; with_reducible exact H2_) | with_reducible exact H | (rw [hy407]; exact H) | exact H
                            have Ny407 := Aside0.mk hy407
                            clear hy407
                            by_cases c74 : y407.length + t396.length < 17592186044416
                            · rw [if_pos c74] at H
                              have LMc74 := Aside0.mk c74
                              clear c74
                              obtain ⟨y410, hy410⟩ : ∃ y_ : List Int, y_ = (y407 ++ t396) := ⟨_, rfl⟩
                              replace H : ((impl_NetRun.f t370 t371 y410).bind fun t413 => (if (t413.length : Int) = t370 then ((laws_sorted.f kj45 t413).bind fun t416 => (laws_FnZeroOne.j3 kj45 t396 t416 t370 t371)) else (laws_FnZeroOne.j3 kj45 t396 true t370 t371))) = some r := by first | (rw [hy410]; with_reducible exact H) | (have H2_ := (Option.bind_some _ _).symm.trans H; rw [hy410]; with_reducible exact H2_) | (have H2_ := (Option.bind_some _ _).symm.trans H; with_reducible exact H2_) | with_reducible exact H | (rw [hy410]; exact H) | exact H
                              have Ny410 := Aside0.mk hy410
                              clear hy410
                              replace H := Option.bind_eq_some_iff.mp H
                              obtain ⟨t413, A750, H⟩ := H
                              replace H : (if (t413.length : Int) = t370 then ((laws_sorted.f kj45 t413).bind fun t416 => (laws_FnZeroOne.j3 kj45 t396 t416 t370 t371)) else (laws_FnZeroOne.j3 kj45 t396 true t370 t371)) = some r := H
                              have A75 := Aside0.mk A750
                              clear A750
                              have HC76 := Aside0.mk H
                              clear H
                              try go_wp2
                              have n0_ := Aside0.mk (Kd.R_drew HO_5.out)
                              have n1_ := Aside0.mk (Kd.R_drew HO_7.out)
                              have n2_ := Aside0.mk (Kd.R_drew HO_375001.out)
                              have n3_ := Aside0.mk (Kd.R_drew HO_383001.out)
                              have n4_ := Aside0.mk (blk_drew BK374.out)
                              have n5_ := Aside0.mk (blk_drew BK382.out)
                              have n6_ := Aside0.mk (below_drew1 HB.out)
                              clear HO_5
                              clear HO_7
                              clear HO_375001
                              clear HO_383001
                              clear BK374
                              clear BK382
                              clear HB
                              have HO_5 := n0_
                              have HO_7 := n1_
                              have HO_375001 := n2_
                              have HO_383001 := n3_
                              have BK374 := n4_
                              have BK382 := n5_
                              have HB := n6_
                              clear n0_ n1_ n2_ n3_ n4_ n5_ n6_
                              refine start_ (n := 6) (S := fun w' => w'.cell? ⟨gb374, 0, none⟩ = some (.int .i64 t370) ∧ w'.cell? ⟨gb374, 1, none⟩ = some (.slice Ao10 t371.length co10)) (ds := []) #[false, false, false, false, false, false] (by kernel_rfl) rfl rfl ⟨(blk_cell BK374.out 0).trans rfl, (blk_cell BK374.out 1).trans rfl⟩ (fun hHeld => ?_)
                              generalize wc.drew = w77 at HO_5 HO_7 HO_375001 HO_383001 BK374 BK382 HB hHeld ⊢
                              refine pure_ (i := 2) (N := some 84) (v := ?_) (a' := ?_) #[false, false, true, false, false, false] rfl rfl (by kernel_rfl) (fun _ _ _ h => h) (Or.inl ⟨by rfl, ?_⟩) ?_ ?_
                              rotate_left
                              · intro w'
                                go_simp
                                with_reducible rfl
                              rotate_left
                              · simp only [Act.put, List.setIfInBounds_toArray, List.set_cons_zero, List.set_cons_succ, i64_w, i32_w]
                                rfl
                              refine take_ (i := 0) (N := some 82) (v := ?_) (a' := ?_) #[true, false, true, false, false, false] rfl rfl (by kernel_rfl) (fun _ _ _ h => h) (Or.inl ⟨by rfl, ?_⟩) hHeld ?_ ?_
                              rotate_left
                              · rintro w' ⟨s0, s1⟩
                                go_simp
                                with_reducible rfl
                              rotate_left
                              · simp only [Act.put, List.setIfInBounds_toArray, List.set_cons_zero, List.set_cons_succ, i64_w, i32_w]
                                rfl
                              refine one_ (i := 1) (N := some 83) #[true, true, true, false, false, false] rfl rfl (by kernel_rfl) (by decide) (fun K hK => ?_)
                              refine Kd.R_lit_step (Kd.int .i64) _ 3 ?hg (N := 83) ?hd (xs := ([] : List Int)) (inner := []) (ok := fun _ => True) (okp := fun _ => True) ?hr ?hp (fun _ hk => hk) trivial (Below.refl _ _) (Nat.le_refl _) (by simp) ?_; (case hd => rfl); (case hg => rfl); (case hr => first | (go_simp; done) | (go_simp; rfl)); (case hp => exact (Reps.none _ _))
                              intro v408 w78 ho79 hb hg_ hnew_
                              clear hg_ hnew_
                              (first | rw [← Ny407.out] at ho79 | (simp only [Int.reduceToNat] at ho79; rw [← Ny407.out] at ho79))
                              have n0_ := Aside0.mk (Kd.R_elder' (by (with_reducible repeat (first | apply Kd.R_alloc | apply Kd.R_drewN | apply Kd.R_drew)); exact HO_5.out) (Kd.R_base ho79) hb)
                              have n1_ := Aside0.mk (Kd.R_elder' (by (with_reducible repeat (first | apply Kd.R_alloc | apply Kd.R_drewN | apply Kd.R_drew)); exact HO_7.out) (Kd.R_base ho79) hb)
                              have n2_ := Aside0.mk (Kd.R_below (by (with_reducible repeat (first | apply Kd.R_alloc | apply Kd.R_drewN | apply Kd.R_drew)); exact HO_375001.out) hb)
                              have n3_ := Aside0.mk (Kd.R_below (by (with_reducible repeat (first | apply Kd.R_alloc | apply Kd.R_drewN | apply Kd.R_drew)); exact HO_383001.out) hb)
                              have n4_ := Aside0.mk (Kd.R_lower (Kd.R_new' (Kd.R_new' ho79 (Kd.R_lt (by (with_reducible repeat (first | apply Kd.R_alloc | apply Kd.R_drewN | apply Kd.R_drew)); exact HO_5.out))) (Kd.R_lt (by (with_reducible repeat (first | apply Kd.R_alloc | apply Kd.R_drewN | apply Kd.R_drew)); exact HO_7.out))) (below_size (by repeat (first | (with_reducible first | exact HB.out | apply below_alloc | apply pw_below_drewN | apply below_drew1 | refine below_set ?_ GE374.out | refine below_set ?_ GE382.out) | exact HB.out))))
                              have n5_ := Aside0.mk (blk_below (g := gb374) (o := .cells #[.int .i64 t370, .slice Ao10 t371.length co10] 28 (0, 0)) (by (with_reducible repeat (first | refine blk_drewN ?_ _ | refine blk_drew ?_ | refine blk_alloc ?_ _)); exact BK374.out) hb)
                              have n6_ := Aside0.mk (blk_below (g := gb382) (o := .cells #[.int .i64 t375, .slice Ao15 t376.length co15] 28 (0, 0)) (by (with_reducible repeat (first | refine blk_drewN ?_ _ | refine blk_drew ?_ | refine blk_alloc ?_ _)); exact BK382.out) hb)
                              have n7_ := Aside0.mk (below_step (by repeat (first | (with_reducible first | exact HB.out | apply below_alloc | apply pw_below_drewN | apply below_drew1 | refine below_set ?_ GE374.out | refine below_set ?_ GE382.out) | exact HB.out)) hb)
                              clear HO_5
                              clear HO_7
                              clear HO_375001
                              clear HO_383001
                              clear BK374
                              clear BK382
                              clear HB
                              have HO_5 := n0_
                              have HO_7 := n1_
                              have HO_375001 := n2_
                              have HO_383001 := n3_
                              have HO409 := n4_
                              have BK374 := n5_
                              have BK382 := n6_
                              have HB := n7_
                              clear n0_ n1_ n2_ n3_ n4_ n5_ n6_ n7_
                              clear hb ho79
                              obtain ⟨Ao81, co81, eo81⟩ := Kd.R_slice HO_7.out
                              (first | subst eo81 | (injection eo81 with f1_ f2_ f3_; have f4_ := f1_.symm; have f5_ := f3_.symm; clear f1_ f2_ f3_; subst f4_; subst f5_))
                              refine hK.out _ _ ⟨(blk_cell BK374.out 0).trans rfl, (blk_cell BK374.out 1).trans rfl⟩ (fun hHeld => ?_)
                              clear hK K
                              refine norm_ (a' := ?_) ?_ ?_
                              rotate_left
                              · show Act.put _ (some 83) _ = _
                                simp only [Act.put, List.setIfInBounds_toArray, List.set_cons_zero, List.set_cons_succ, i64_w, i32_w]
                                rfl
                              refine one_ (i := 3) (N := some 85) #[true, true, true, true, false, false] rfl rfl (by kernel_rfl) (by decide) (fun K hK => ?_)
                              refine Kd.R_append_rows_step (Kd.int .i64) (w0 := w) w.heap.size (by rfl) (.tmp 83) (.tmp 84) 24 3 (.int .i64 0) 8 rfl Try.underlying24 info3 rfl (by decide) (by omega) v408 y407 t396 _ _ _ (fun k_ => some k_ ≠ (.slice Ao47 y392.length co47 : Value).ownBlock ∧ some k_ ≠ (.slice Ao81 t396.length co81 : Value).ownBlock) (fun _ => False) rfl rfl ?aO ?aR (fun _ _ h => h) (fun _ h => h.elim) ?aF ?aB ?aS ?aL ?_
                              (case aR => repeat (first | exact (Kd.R_reads' HO_7.out).2.2 | (with_reducible refine Kd.C_alloc ?_ _) | (with_reducible refine Kd.C_drewN ?_ _) | (with_reducible refine Kd.C_drew ?_)))
                              (case aB => exact (by repeat (first | (with_reducible first | exact HB.out | apply below_alloc | apply pw_below_drewN | apply below_drew1 | refine below_set ?_ GE374.out | refine below_set ?_ GE382.out) | exact HB.out)))
                              (case aF => exact (fun k_ hk => ⟨Kd.fresh' (Kd.R_lt (by (with_reducible repeat (first | apply Kd.R_alloc | apply Kd.R_drewN | apply Kd.R_drew)); exact HO_5.out)) k_ hk, Kd.fresh' (Kd.R_lt (by (with_reducible repeat (first | apply Kd.R_alloc | apply Kd.R_drewN | apply Kd.R_drew)); exact HO_7.out)) k_ hk⟩))
                              (case aO => exact (by (with_reducible repeat (first | apply Kd.R_alloc | apply Kd.R_drewN | apply Kd.R_drew)); exact Kd.R_mono HO409.out (fun _ hk => ⟨hk.1.2, hk.2⟩)))
                              (case aS => exact (below_size (by repeat (first | (with_reducible first | exact HB.out | apply below_alloc | apply pw_below_drewN | apply below_drew1 | refine below_set ?_ GE374.out | refine below_set ?_ GE382.out) | exact HB.out))))
                              (case aL => have := LMc74.out; omega)
                              intro v411 w80 ho hb hg hat
                              rw [← Ny410.out] at ho
                              have n0_ := Aside0.mk (Kd.R_after (ok := (fun k_ => some k_ ≠ (.slice Ao81 t396.length co81 : Value).ownBlock)) (by (with_reducible repeat (first | apply Kd.R_alloc | apply Kd.R_drewN | apply Kd.R_drew)); exact HO_5.out) hg hat)
                              have n1_ := Aside0.mk (Kd.R_after (ok := (fun k_ => some k_ ≠ (.slice Ao47 y392.length co47 : Value).ownBlock)) (by (with_reducible repeat (first | apply Kd.R_alloc | apply Kd.R_drewN | apply Kd.R_drew)); exact HO_7.out) hg hat)
                              have n2_ := Aside0.mk (Kd.R_over' (by (with_reducible repeat (first | apply Kd.R_alloc | apply Kd.R_drewN | apply Kd.R_drew)); exact HO_375001.out) (Kd.R_typed (by (with_reducible repeat (first | apply Kd.R_alloc | apply Kd.R_drewN | apply Kd.R_drew)); exact HO409.out)) (by decide) hg)
                              have n3_ := Aside0.mk (Kd.R_over' (by (with_reducible repeat (first | apply Kd.R_alloc | apply Kd.R_drewN | apply Kd.R_drew)); exact HO_383001.out) (Kd.R_typed (by (with_reducible repeat (first | apply Kd.R_alloc | apply Kd.R_drewN | apply Kd.R_drew)); exact HO409.out)) (by decide) hg)
                              have n4_ := Aside0.mk (blk_grown (g := gb374) (o := .cells #[.int .i64 t370, .slice Ao10 t371.length co10] 28 (0, 0)) (by (with_reducible repeat (first | refine blk_drewN ?_ _ | refine blk_drew ?_ | refine blk_alloc ?_ _)); exact BK374.out) hg (Kd.R_ne HO409.out BK374.out (by decide)))
                              have n5_ := Aside0.mk (blk_grown (g := gb382) (o := .cells #[.int .i64 t375, .slice Ao15 t376.length co15] 28 (0, 0)) (by (with_reducible repeat (first | refine blk_drewN ?_ _ | refine blk_drew ?_ | refine blk_alloc ?_ _)); exact BK382.out) hg (Kd.R_ne HO409.out BK382.out (by decide)))
                              have n6_ := Aside0.mk (hb)
                              have n7_ := Aside0.mk (ho)
                              clear HO_5
                              clear HO_7
                              clear HO_375001
                              clear HO_383001
                              clear BK374
                              clear BK382
                              clear HB
                              clear HO409
                              have HO_5 := n0_
                              have HO_7 := n1_
                              have HO_375001 := n2_
                              have HO_383001 := n3_
                              have BK374 := n4_
                              have BK382 := n5_
                              have HB := n6_
                              have HO412 := n7_
                              clear n0_ n1_ n2_ n3_ n4_ n5_ n6_ n7_
                              clear ho hb hg hat
                              obtain ⟨Ao82, co82, eo82⟩ := Kd.R_slice HO412.out
                              (first | subst eo82 | (injection eo82 with f1_ f2_ f3_; have f4_ := f1_.symm; have f5_ := f3_.symm; clear f1_ f2_ f3_; subst f4_; subst f5_))
                              refine hK.out _ _ ⟨(blk_cell BK374.out 0).trans rfl, (blk_cell BK374.out 1).trans rfl⟩ (fun hHeld => ?_)
                              clear hK K
                              refine norm_ (a' := ?_) ?_ ?_
                              rotate_left
                              · show Act.put _ (some 85) _ = _
                                simp only [Act.put, List.setIfInBounds_toArray, List.set_cons_zero, List.set_cons_succ, i64_w, i32_w]
                                rfl
                              refine one_ (i := 4) (N := some 86) #[true, true, true, true, true, false] rfl rfl (by kernel_rfl) (by decide) (fun K hK => ?_)
                              refine goes_ Try.func12 (by kernel_rfl) rfl #[.agg #[.int .i64 t370, .slice Ao10 t371.length co10], .slice Ao82 y410.length co82] (by rfl) rfl rfl (by (try simp only [List.map_toArray, List.map_cons, List.map_nil]); first | done | rfl | (simp only [List.length_drop, List.length_take]; rfl)) ?_
                              with_reducible refine (impl_NetRun.calls t370 _ _ t371 _ _ y410 t413 _ ?side1 ?side2 ?side3 ?side4 A75.out).mono ?_
                              (case side1 => repeat (first | exact (Kd.R_reads' HO_375001.out).2.2 | (with_reducible refine Kd.C_alloc ?_ _) | (with_reducible refine Kd.C_drewN ?_ _) | (with_reducible refine Kd.C_drew ?_)))
                              (case side2 => exact (Kd.R_reads' HO_375001.out).2.1)
                              (case side3 => repeat (first | exact (Kd.R_reads' HO412.out).2.2 | (with_reducible refine Kd.C_alloc ?_ _) | (with_reducible refine Kd.C_drewN ?_ _) | (with_reducible refine Kd.C_drew ?_)))
                              (case side4 => exact (Kd.R_reads' HO412.out).2.1)
                              rintro e w83 ⟨v414, rfl, ho0, hb⟩
                              refine ⟨_, rfl, ?_⟩
                              have n0_ := Aside0.mk (Kd.R_elder' (by (with_reducible repeat (first | apply Kd.R_alloc | apply Kd.R_drewN | apply Kd.R_drew)); exact HO_5.out) (Kd.R_base ho0) hb)
                              have n1_ := Aside0.mk (Kd.R_elder' (by (with_reducible repeat (first | apply Kd.R_alloc | apply Kd.R_drewN | apply Kd.R_drew)); exact HO_7.out) (Kd.R_base ho0) hb)
                              have n2_ := Aside0.mk (Kd.R_below (by (with_reducible repeat (first | apply Kd.R_alloc | apply Kd.R_drewN | apply Kd.R_drew)); exact HO_375001.out) hb)
                              have n3_ := Aside0.mk (Kd.R_below (by (with_reducible repeat (first | apply Kd.R_alloc | apply Kd.R_drewN | apply Kd.R_drew)); exact HO_383001.out) hb)
                              have n4_ := Aside0.mk (Kd.R_elder' (by (with_reducible repeat (first | apply Kd.R_alloc | apply Kd.R_drewN | apply Kd.R_drew)); exact HO412.out) (Kd.R_base ho0) hb)
                              have n5_ := Aside0.mk (Kd.R_lower (Kd.R_new' (Kd.R_new' (Kd.R_new' ho0 (Kd.R_lt (by (with_reducible repeat (first | apply Kd.R_alloc | apply Kd.R_drewN | apply Kd.R_drew)); exact HO_5.out))) (Kd.R_lt (by (with_reducible repeat (first | apply Kd.R_alloc | apply Kd.R_drewN | apply Kd.R_drew)); exact HO_7.out))) (Kd.R_lt (by (with_reducible repeat (first | apply Kd.R_alloc | apply Kd.R_drewN | apply Kd.R_drew)); exact HO412.out))) (below_size (by repeat (first | (with_reducible first | exact HB.out | apply below_alloc | apply pw_below_drewN | apply below_drew1 | refine below_set ?_ GE374.out | refine below_set ?_ GE382.out) | exact HB.out))))
                              have n6_ := Aside0.mk (blk_below (g := gb374) (o := .cells #[.int .i64 t370, .slice Ao10 t371.length co10] 28 (0, 0)) (by (with_reducible repeat (first | refine blk_drewN ?_ _ | refine blk_drew ?_ | refine blk_alloc ?_ _)); exact BK374.out) hb)
                              have n7_ := Aside0.mk (blk_below (g := gb382) (o := .cells #[.int .i64 t375, .slice Ao15 t376.length co15] 28 (0, 0)) (by (with_reducible repeat (first | refine blk_drewN ?_ _ | refine blk_drew ?_ | refine blk_alloc ?_ _)); exact BK382.out) hb)
                              have n8_ := Aside0.mk (below_step (by repeat (first | (with_reducible first | exact HB.out | apply below_alloc | apply pw_below_drewN | apply below_drew1 | refine below_set ?_ GE374.out | refine below_set ?_ GE382.out) | exact HB.out)) hb)
                              clear HO_5
                              clear HO_7
                              clear HO_375001
                              clear HO_383001
                              clear HO412
                              clear BK374
                              clear BK382
                              clear HB
                              have HO_5 := n0_
                              have HO_7 := n1_
                              have HO_375001 := n2_
                              have HO_383001 := n3_
                              have HO412 := n4_
                              have HO415 := n5_
                              have BK374 := n6_
                              have BK382 := n7_
                              have HB := n8_
                              clear n0_ n1_ n2_ n3_ n4_ n5_ n6_ n7_ n8_
                              (try clear hb)
                              (try clear hb2)
                              (try clear hk)
                              (try clear hi)
                              (try clear ho0)
                              refine hK.out _ _ ⟨(blk_cell BK374.out 0).trans rfl, (blk_cell BK374.out 1).trans rfl⟩ (fun hHeld => ?_)
                              clear hK K
                              refine norm_ (a' := ?_) ?_ ?_
                              rotate_left
                              · show Act.put _ (some 86) _ = _
                                simp only [Act.put, List.setIfInBounds_toArray, List.set_cons_zero, List.set_cons_succ, i64_w, i32_w]
                                rfl
                              refine pure_ (i := 5) (N := some 8) (v := ?_) (a' := ?_) #[true, true, true, true, true, true] rfl rfl (by kernel_rfl) (fun _ _ _ h => h) (Or.inl ⟨by rfl, ?_⟩) ?_ ?_
                              rotate_left
                              · intro w'
                                go_simp
                                with_reducible rfl
                              rotate_left
                              · simp only [Act.put, List.setIfInBounds_toArray, List.set_cons_zero, List.set_cons_succ, i64_w, i32_w]
                                rfl
                              refine done_ (by kernel_rfl) ?_
                              go_upto_region 17 with (fail)
                              go_cut [95] (fun v95 wc => ∃ (kq : Nat) (x95_75 : Bool), v95 = .bool x95_75 ∧ Aside0 (laws_FnZeroOne.j3 kq t396 x95_75 t370 t371 = some r) ∧ Aside0 (kq ≤ kj45) ∧ Aside0 (Kd.R (Kd.int .i64) 3 wc w.heap.size (fun _ => True) (.slice Ao81 t396.length co81) t396) ∧ Aside0 (Kd.R k55 55 wc w.heap.size (fun k_ => some k_ ≠ ((.slice Ao15 t376.length co15) : Value).ownBlock) (.slice Ao10 t371.length co10) t371) ∧ Aside0 (Kd.R k55 55 wc w.heap.size (fun k_ => some k_ ≠ ((.slice Ao10 t371.length co10) : Value).ownBlock) (.slice Ao15 t376.length co15) t376) ∧ Aside0 (wc.heap[gb374]? = some (.cells #[.int .i64 t370, (.slice Ao10 t371.length co10)] 28 (0, 0))) ∧ Aside0 (wc.heap[gb382]? = some (.cells #[.int .i64 t375, (.slice Ao15 t376.length co15)] 28 (0, 0))) ∧ Aside0 (Below w.heap.size w wc))
                              case first =>
                                have H := HC76.out
                                clear HC76
                                by_cases c84 : (t413.length : Int) = t370
                                · rw [if_pos c84] at H
                                  have c84b0 : ((t413.length : Int) == t370) = true := beq_iff_eq.mpr c84
                                  have c84b1 : ((t413.length : Int) != t370) = false := bne_eq_false_iff_eq.mpr c84
                                  clear c84
                                  (first | rw [c84b0] | (simp only [i64_w, i32_w]; rw [c84b0]) | skip)
                                  replace H := Option.bind_eq_some_iff.mp H
                                  obtain ⟨t416, A850, H⟩ := H
                                  replace H : (laws_FnZeroOne.j3 kj45 t396 t416 t370 t371) = some r := H
                                  have A85 := Aside0.mk A850
                                  clear A850
                                  have H' := Aside0.mk H
                                  clear H
                                  obtain ⟨Ao86, co86, eo86⟩ := Kd.R_slice HO415.out
                                  subst eo86
                                  have hnb87 := NB374_382.out
                                  have hnc87 := NB382_374.out
                                  have hcz88_0 : w83.cell? ⟨gb374, 0, none⟩ = some (.int .i64 t370) := (blk_cell BK374.out 0).trans rfl
                                  have hcz88_1 : w83.cell? ⟨gb374, 1, none⟩ = some (.slice Ao10 t371.length co10) := (blk_cell BK374.out 1).trans rfl
                                  have hfz88_0 := blk_frozen BK374.out 0
                                  have hfz88_1 := blk_frozen BK374.out 1
                                  go_wp2_with (first | (go_at_call 13; (with_reducible refine (laws_sorted.calls kj45 _ _ t413 t416 _ ?side1 ?side2 A85.out).mono ?_); (case side1 => repeat (first | exact (Kd.R_reads' HO415.out).2.2 | (with_reducible refine Kd.C_alloc ?_ _) | (with_reducible refine Kd.C_drewN ?_ _) | (with_reducible refine Kd.C_drew ?_))); (case side2 => exact (Kd.R_reads' HO415.out).2.1); rintro e w' ⟨rfl, ⟨nd, rfl⟩⟩))
                                  go_meet
                                  case rel => exact ⟨_, (t416), (by first | rfl | (simp; done) | (simp [*]; done)), H', ⟨by have := HJ5.out; have := HK2.out; have := HJ45.out; first | omega | exact Nat.le_refl _⟩, ⟨by (with_reducible repeat (first | apply Kd.R_alloc | apply Kd.R_drewN | apply Kd.R_drew)); exact Kd.R_mono HO_7.out (fun _ hk => trivial)⟩, ⟨by (with_reducible repeat (first | apply Kd.R_alloc | apply Kd.R_drewN | apply Kd.R_drew)); exact HO_375001.out⟩, ⟨by (with_reducible repeat (first | apply Kd.R_alloc | apply Kd.R_drewN | apply Kd.R_drew)); exact HO_383001.out⟩, ⟨by (with_reducible repeat (first | refine blk_drewN ?_ _ | refine blk_drew ?_ | refine blk_alloc ?_ _)); exact BK374.out⟩, ⟨by (with_reducible repeat (first | refine blk_drewN ?_ _ | refine blk_drew ?_ | refine blk_alloc ?_ _)); exact BK382.out⟩, ⟨by repeat (first | (with_reducible first | exact HB.out | apply below_alloc | apply pw_below_drewN | apply below_drew1 | refine below_set ?_ GE374.out | refine below_set ?_ GE382.out) | exact HB.out)⟩⟩
                                · rw [if_neg c84] at H
                                  have c84b0 : ((t413.length : Int) == t370) = false := beq_eq_false_iff_ne.mpr c84
                                  have c84b1 : ((t413.length : Int) != t370) = true := bne_iff_ne.mpr c84
                                  (first | rw [c84b0] | (simp only [i64_w, i32_w]; rw [c84b0]) | skip)
                                  have H' := Aside0.mk H
                                  clear H
                                  obtain ⟨Ao89, co89, eo89⟩ := Kd.R_slice HO415.out
                                  subst eo89
                                  have hnb90 := NB374_382.out
                                  have hnc90 := NB382_374.out
                                  have hcz91_0 : w83.cell? ⟨gb374, 0, none⟩ = some (.int .i64 t370) := (blk_cell BK374.out 0).trans rfl
                                  have hcz91_1 : w83.cell? ⟨gb374, 1, none⟩ = some (.slice Ao10 t371.length co10) := (blk_cell BK374.out 1).trans rfl
                                  have hfz91_0 := blk_frozen BK374.out 0
                                  have hfz91_1 := blk_frozen BK374.out 1
                                  go_wp2
                                  go_meet
                                  case rel => exact ⟨_, (true), (by first | rfl | (simp; done) | (simp [*]; done)), H', ⟨by have := HJ5.out; have := HK2.out; have := HJ45.out; first | omega | exact Nat.le_refl _⟩, ⟨by (with_reducible repeat (first | apply Kd.R_alloc | apply Kd.R_drewN | apply Kd.R_drew)); exact Kd.R_mono HO_7.out (fun _ hk => trivial)⟩, ⟨by (with_reducible repeat (first | apply Kd.R_alloc | apply Kd.R_drewN | apply Kd.R_drew)); exact HO_375001.out⟩, ⟨by (with_reducible repeat (first | apply Kd.R_alloc | apply Kd.R_drewN | apply Kd.R_drew)); exact HO_383001.out⟩, ⟨by (with_reducible repeat (first | refine blk_drewN ?_ _ | refine blk_drew ?_ | refine blk_alloc ?_ _)); exact BK374.out⟩, ⟨by (with_reducible repeat (first | refine blk_drewN ?_ _ | refine blk_drew ?_ | refine blk_alloc ?_ _)); exact BK382.out⟩, ⟨by repeat (first | (with_reducible first | exact HB.out | apply below_alloc | apply pw_below_drewN | apply below_drew1 | refine below_set ?_ GE374.out | refine below_set ?_ GE382.out) | exact HB.out)⟩⟩
                              case rest =>
                                clear HC76
                                try clear c1
                                try clear p2
                                try clear c4
                                try clear c5
                                try clear q5
                                try clear c6
                                try clear c7
                                try clear c8
                                try clear c9
                                try clear c12
                                try clear c13
                                try clear c42
                                try clear c42b1
                                try clear c43
                                try clear c43b0
                                try clear c43b1
                                try clear c48
                                try clear q50
                                try clear c55
                                try clear c55b0
                                try clear c55b1
                                try clear c55b2
                                try clear c56
                                try clear c59
                                try clear c63
                                try clear c64
                                try clear c67
                                try clear c74
                                try clear c84
                                try clear c84b0
                                try clear c84b1
                                try clear c87
                                try clear c90
                                try clear hcz14_0
                                try clear hcz14_1
                                try clear hcz19_0
                                try clear hcz19_1
                                try clear hcz21_0
                                try clear hcz21_1
                                try clear hcz23_0
                                try clear hcz23_1
                                try clear hcz30_0
                                try clear hcz30_1
                                try clear hcz32_0
                                try clear hcz32_1
                                try clear hcz40_0
                                try clear hcz40_1
                                try clear hcz49_0
                                try clear hcz49_1
                                try clear hcz52_0
                                try clear hcz52_1
                                try clear hcz57_0
                                try clear hcz57_1
                                try clear hcz60_0
                                try clear hcz60_1
                                try clear hcz88_0
                                try clear hcz88_1
                                try clear hcz91_0
                                try clear hcz91_1
                                try clear hcz9_0
                                try clear hcz9_1
                                try clear hfz14_0
                                try clear hfz14_1
                                try clear hfz19_0
                                try clear hfz19_1
                                try clear hfz21_0
                                try clear hfz21_1
                                try clear hfz23_0
                                try clear hfz23_1
                                try clear hfz30_0
                                try clear hfz30_1
                                try clear hfz32_0
                                try clear hfz32_1
                                try clear hfz40_0
                                try clear hfz40_1
                                try clear hfz49_0
                                try clear hfz49_1
                                try clear hfz52_0
                                try clear hfz52_1
                                try clear hfz57_0
                                try clear hfz57_1
                                try clear hfz60_0
                                try clear hfz60_1
                                try clear hfz88_0
                                try clear hfz88_1
                                try clear hfz91_0
                                try clear hfz91_1
                                try clear hfz9_0
                                try clear hfz9_1
                                try clear p2
                                try clear q50
                                obtain ⟨kq, x95_75, rfl, HA, HJ75, HO_7, HO_375001, HO_383001, BK374, BK382, HB⟩ := hcut
                                cases kq with
                                | zero => exact absurd HA.out (by simp [laws_FnZeroOne.j3])
                                | succ kj75 =>
                                  have H := HA.out
                                  clear HA
                                  simp only [laws_FnZeroOne.j3] at H
                                  by_cases c92 : x95_75 = true
                                  · subst c92
                                    have H1 : (some false) = some r := by rw [if_pos rfl] at H; exact H
                                    clear H
                                    have H := H1
                                    clear H1
                                    exact absurd ((Option.some.inj H).trans HTRUE_.out) (by decide)
                                  · replace c92 := Bool.eq_false_iff.mpr c92
                                    subst c92
                                    have H1 : ((some (([] : List Int) : List Int)).bind fun y417 => (if y417.length + t396.length < 17592186044416 then (laws_FnZeroOne.l1 kj75 (y417 ++ t396) (wrap64 (t370 - 1)) t370 t371) else (none))) = some r := by rw [if_neg (show ¬ (false = true) by decide)] at H; exact H
                                    clear H
                                    have H := H1
                                    clear H1
                                    obtain ⟨y417, hy417⟩ : ∃ y_ : List Int, y_ = (([] : List Int)) := ⟨_, rfl⟩
                                    replace H : (if y417.length + t396.length < 17592186044416 then (laws_FnZeroOne.l1 kj75 (y417 ++ t396) (wrap64 (t370 - 1)) t370 t371) else (none)) = some r := by first | (rw [hy417]; with_reducible exact H) | (have H2_ := (Option.bind_some _ _).symm.trans H; rw [hy417]; with_reducible exact H2_) | (have H2_ := (Option.bind_some _ _).symm.trans H; with_reducible exact H2_) | with_reducible exact H | (rw [hy417]; exact H) | exact H
                                    have Ny417 := Aside0.mk hy417
                                    clear hy417
                                    by_cases c93 : y417.length + t396.length < 17592186044416
                                    · rw [if_pos c93] at H
                                      have LMc93 := Aside0.mk c93
                                      clear c93
                                      obtain ⟨y420, hy420⟩ : ∃ y_ : List Int, y_ = (y417 ++ t396) := ⟨_, rfl⟩
                                      replace H : (laws_FnZeroOne.l1 kj75 y420 (wrap64 (t370 - 1)) t370 t371) = some r := by first | (rw [hy420]; with_reducible exact H) | (have H2_ := (Option.bind_some _ _).symm.trans H; rw [hy420]; with_reducible exact H2_) | (have H2_ := (Option.bind_some _ _).symm.trans H; with_reducible exact H2_) | with_reducible exact H | (rw [hy420]; exact H) | exact H
                                      have Ny420 := Aside0.mk hy420
                                      clear hy420
                                      have H' := Aside0.mk H
                                      clear H
                                      go_wp2_with (first | ((with_reducible refine gate_dst (N := 96) rfl ?_); (try (refine gate_guard (by rfl) ?_; dsimp only)); refine Kd.R_lit (Kd.int .i64) _ 3 ?hg (N := 96) ?hd (xs := ([] : List Int)) (inner := []) (ok := fun _ => True) (okp := fun _ => True) ?hr ?hp (fun _ hk => hk) trivial (Below.refl _ _) (Nat.le_refl _) (by simp) ?_; (case hd => rfl); (case hg => rfl); (case hr => first | (go_simp; done) | (go_simp; rfl)); (case hp => exact (Reps.none _ _)); intro v418 w94 ho95 hb hg_ hnew_; clear hg_ hnew_; (first | rw [← Ny417.out] at ho95 | (simp only [Int.reduceToNat] at ho95; rw [← Ny417.out] at ho95)); have n0_ := Aside0.mk (Kd.R_elder' (by (with_reducible repeat (first | apply Kd.R_alloc | apply Kd.R_drewN | apply Kd.R_drew)); exact HO_7.out) (Kd.R_base ho95) hb); have n1_ := Aside0.mk (Kd.R_below (by (with_reducible repeat (first | apply Kd.R_alloc | apply Kd.R_drewN | apply Kd.R_drew)); exact HO_375001.out) hb); have n2_ := Aside0.mk (Kd.R_below (by (with_reducible repeat (first | apply Kd.R_alloc | apply Kd.R_drewN | apply Kd.R_drew)); exact HO_383001.out) hb); have n3_ := Aside0.mk (Kd.R_lower (Kd.R_new' ho95 (Kd.R_lt (by (with_reducible repeat (first | apply Kd.R_alloc | apply Kd.R_drewN | apply Kd.R_drew)); exact HO_7.out))) (below_size (by repeat (first | (with_reducible first | exact HB.out | apply below_alloc | apply pw_below_drewN | apply below_drew1 | refine below_set ?_ GE374.out | refine below_set ?_ GE382.out) | exact HB.out)))); have n4_ := Aside0.mk (blk_below (g := gb374) (o := .cells #[.int .i64 t370, .slice Ao10 t371.length co10] 28 (0, 0)) (by (with_reducible repeat (first | refine blk_drewN ?_ _ | refine blk_drew ?_ | refine blk_alloc ?_ _)); exact BK374.out) hb); have n5_ := Aside0.mk (blk_below (g := gb382) (o := .cells #[.int .i64 t375, .slice Ao15 t376.length co15] 28 (0, 0)) (by (with_reducible repeat (first | refine blk_drewN ?_ _ | refine blk_drew ?_ | refine blk_alloc ?_ _)); exact BK382.out) hb); have n6_ := Aside0.mk (below_step (by repeat (first | (with_reducible first | exact HB.out | apply below_alloc | apply pw_below_drewN | apply below_drew1 | refine below_set ?_ GE374.out | refine below_set ?_ GE382.out) | exact HB.out)) hb); clear HO_7; clear HO_375001; clear HO_383001; clear BK374; clear BK382; clear HB; have HO_7 := n0_; have HO_375001 := n1_; have HO_383001 := n2_; have HO419 := n3_; have BK374 := n4_; have BK382 := n5_; have HB := n6_; clear n0_ n1_ n2_ n3_ n4_ n5_ n6_; clear hb ho95) | ((with_reducible refine gate_builtin (b := .append) (xs := #[.tmp 96, .tmp 97]) rfl ?_); (try (refine gate_guard (by rfl) ?_; dsimp only)); at_builtin; refine Kd.R_append_rows (Kd.int .i64) (w0 := w) w.heap.size rfl (.tmp 96) (.tmp 97) 24 3 (.int .i64 0) 8 rfl Try.underlying24 info3 rfl (by decide) (by omega) v418 y417 t396 _ _ _ (fun k_ => some k_ ≠ (.slice Ao81 t396.length co81 : Value).ownBlock) (fun _ => False) rfl rfl ?aO ?aR (fun _ _ h => h) (fun _ h => h.elim) ?aF ?aB ?aS ?aL ?_; (case aR => repeat (first | exact (Kd.R_reads' HO_7.out).2.2 | (with_reducible refine Kd.C_alloc ?_ _) | (with_reducible refine Kd.C_drewN ?_ _) | (with_reducible refine Kd.C_drew ?_))); (case aB => exact (by repeat (first | (with_reducible first | exact HB.out | apply below_alloc | apply pw_below_drewN | apply below_drew1 | refine below_set ?_ GE374.out | refine below_set ?_ GE382.out) | exact HB.out))); (case aF => exact (fun k_ hk => Kd.fresh' (Kd.R_lt (by (with_reducible repeat (first | apply Kd.R_alloc | apply Kd.R_drewN | apply Kd.R_drew)); exact HO_7.out)) k_ hk)); (case aO => exact (by (with_reducible repeat (first | apply Kd.R_alloc | apply Kd.R_drewN | apply Kd.R_drew)); exact Kd.R_mono HO419.out (fun _ hk => by first | exact hk.2 | trivial))); (case aS => exact (below_size (by repeat (first | (with_reducible first | exact HB.out | apply below_alloc | apply pw_below_drewN | apply below_drew1 | refine below_set ?_ GE374.out | refine below_set ?_ GE382.out) | exact HB.out)))); (case aL => have := LMc93.out; omega); intro v421 w96 ho hb hg hat; rw [← Ny420.out] at ho; have n0_ := Aside0.mk (Kd.R_after (ok := (fun _ => True)) (by (with_reducible repeat (first | apply Kd.R_alloc | apply Kd.R_drewN | apply Kd.R_drew)); exact HO_7.out) hg hat); have n1_ := Aside0.mk (Kd.R_over' (by (with_reducible repeat (first | apply Kd.R_alloc | apply Kd.R_drewN | apply Kd.R_drew)); exact HO_375001.out) (Kd.R_typed (by (with_reducible repeat (first | apply Kd.R_alloc | apply Kd.R_drewN | apply Kd.R_drew)); exact HO419.out)) (by decide) hg); have n2_ := Aside0.mk (Kd.R_over' (by (with_reducible repeat (first | apply Kd.R_alloc | apply Kd.R_drewN | apply Kd.R_drew)); exact HO_383001.out) (Kd.R_typed (by (with_reducible repeat (first | apply Kd.R_alloc | apply Kd.R_drewN | apply Kd.R_drew)); exact HO419.out)) (by decide) hg); have n3_ := Aside0.mk (blk_grown (g := gb374) (o := .cells #[.int .i64 t370, .slice Ao10 t371.length co10] 28 (0, 0)) (by (with_reducible repeat (first | refine blk_drewN ?_ _ | refine blk_drew ?_ | refine blk_alloc ?_ _)); exact BK374.out) hg (Kd.R_ne HO419.out BK374.out (by decide))); have n4_ := Aside0.mk (blk_grown (g := gb382) (o := .cells #[.int .i64 t375, .slice Ao15 t376.length co15] 28 (0, 0)) (by (with_reducible repeat (first | refine blk_drewN ?_ _ | refine blk_drew ?_ | refine blk_alloc ?_ _)); exact BK382.out) hg (Kd.R_ne HO419.out BK382.out (by decide))); have n5_ := Aside0.mk (hb); have n6_ := Aside0.mk (ho); clear HO_7; clear HO_375001; clear HO_383001; clear BK374; clear BK382; clear HB; clear HO419; have HO_7 := n0_; have HO_375001 := n1_; have HO_383001 := n2_; have BK374 := n3_; have BK382 := n4_; have HB := n5_; have HO422 := n6_; clear n0_ n1_ n2_ n3_ n4_ n5_ n6_; clear ho hb hg hat; have hnb97 := NB374_382.out; have hnc97 := NB382_374.out; have hcz98_0 : w96.cell? ⟨gb374, 0, none⟩ = some (.int .i64 t370) := (blk_cell BK374.out 0).trans rfl; have hcz98_1 : w96.cell? ⟨gb374, 1, none⟩ = some (.slice Ao10 t371.length co10) := (blk_cell BK374.out 1).trans rfl; have hfz98_0 := blk_frozen BK374.out 0; have hfz98_1 := blk_frozen BK374.out 1))
                                      go_loopg [10] kj75 (fun kq v10 w' => ∃ (x9_5 : List Int) (x10_5 : Int), v10 = .int .i64 x10_5 ∧ Aside0 (laws_FnZeroOne.l1 kq x9_5 x10_5 t370 t371 = some r) ∧ Aside0 (kq ≤ kj75) ∧ Aside0 (Kd.R (Kd.int .i64) 3 w' w.heap.size (fun _ => True) v421 x9_5) ∧ Aside0 (Kd.R k55 55 w' w.heap.size (fun k_ => some k_ ≠ ((.slice Ao15 t376.length co15) : Value).ownBlock) (.slice Ao10 t371.length co10) t371) ∧ Aside0 (Kd.R k55 55 w' w.heap.size (fun k_ => some k_ ≠ ((.slice Ao10 t371.length co10) : Value).ownBlock) (.slice Ao15 t376.length co15) t376) ∧ Aside0 (w'.heap[gb374]? = some (.cells #[.int .i64 t370, (.slice Ao10 t371.length co10)] 28 (0, 0))) ∧ Aside0 (w'.heap[gb382]? = some (.cells #[.int .i64 t375, (.slice Ao15 t376.length co15)] 28 (0, 0))) ∧ Aside0 (Below w.heap.size w w'))
                                      case atStart => exact ⟨(y420), (wrap64 (t370 - 1)), (by first | rfl | (simp; done) | (simp [*]; done)), H', ⟨Nat.le_refl _⟩, ⟨by (with_reducible repeat (first | apply Kd.R_alloc | apply Kd.R_drewN | apply Kd.R_drew)); exact Kd.R_mono HO422.out (fun _ hk => trivial)⟩, ⟨by (with_reducible repeat (first | apply Kd.R_alloc | apply Kd.R_drewN | apply Kd.R_drew)); exact HO_375001.out⟩, ⟨by (with_reducible repeat (first | apply Kd.R_alloc | apply Kd.R_drewN | apply Kd.R_drew)); exact HO_383001.out⟩, ⟨by (with_reducible repeat (first | refine blk_drewN ?_ _ | refine blk_drew ?_ | refine blk_alloc ?_ _)); exact BK374.out⟩, ⟨by (with_reducible repeat (first | refine blk_drewN ?_ _ | refine blk_drew ?_ | refine blk_alloc ?_ _)); exact BK382.out⟩, ⟨by repeat (first | (with_reducible first | exact HB.out | apply below_alloc | apply pw_below_drewN | apply below_drew1 | refine below_set ?_ GE374.out | refine below_set ?_ GE382.out) | exact HB.out)⟩⟩
                                      case round =>
                                        clear H'
                                        try clear c1
                                        try clear p2
                                        try clear c4
                                        try clear c5
                                        try clear q5
                                        try clear c6
                                        try clear p6
                                        try clear c7
                                        try clear c8
                                        try clear c9
                                        try clear c12
                                        try clear c13
                                        try clear c42
                                        try clear c42b1
                                        try clear c43
                                        try clear c43b0
                                        try clear c43b1
                                        try clear c48
                                        try clear q50
                                        try clear c55
                                        try clear c55b0
                                        try clear c55b1
                                        try clear c55b2
                                        try clear c56
                                        try clear c59
                                        try clear c63
                                        try clear c64
                                        try clear p64
                                        try clear c67
                                        try clear c74
                                        try clear c84
                                        try clear c84b0
                                        try clear c84b1
                                        try clear c87
                                        try clear c90
                                        try clear c92
                                        try clear c93
                                        try clear c97
                                        try clear hcz14_0
                                        try clear hcz14_1
                                        try clear hcz19_0
                                        try clear hcz19_1
                                        try clear hcz21_0
                                        try clear hcz21_1
                                        try clear hcz23_0
                                        try clear hcz23_1
                                        try clear hcz30_0
                                        try clear hcz30_1
                                        try clear hcz32_0
                                        try clear hcz32_1
                                        try clear hcz40_0
                                        try clear hcz40_1
                                        try clear hcz49_0
                                        try clear hcz49_1
                                        try clear hcz52_0
                                        try clear hcz52_1
                                        try clear hcz57_0
                                        try clear hcz57_1
                                        try clear hcz60_0
                                        try clear hcz60_1
                                        try clear hcz88_0
                                        try clear hcz88_1
                                        try clear hcz91_0
                                        try clear hcz91_1
                                        try clear hcz98_0
                                        try clear hcz98_1
                                        try clear hcz9_0
                                        try clear hcz9_1
                                        try clear hfz14_0
                                        try clear hfz14_1
                                        try clear hfz19_0
                                        try clear hfz19_1
                                        try clear hfz21_0
                                        try clear hfz21_1
                                        try clear hfz23_0
                                        try clear hfz23_1
                                        try clear hfz30_0
                                        try clear hfz30_1
                                        try clear hfz32_0
                                        try clear hfz32_1
                                        try clear hfz40_0
                                        try clear hfz40_1
                                        try clear hfz49_0
                                        try clear hfz49_1
                                        try clear hfz52_0
                                        try clear hfz52_1
                                        try clear hfz57_0
                                        try clear hfz57_1
                                        try clear hfz60_0
                                        try clear hfz60_1
                                        try clear hfz88_0
                                        try clear hfz88_1
                                        try clear hfz91_0
                                        try clear hfz91_1
                                        try clear hfz98_0
                                        try clear hfz98_1
                                        try clear hfz9_0
                                        try clear hfz9_1
                                        try clear p2
                                        try clear q5
                                        try clear q50
                                        obtain ⟨x9_5, x10_5, rfl, HA, HK5, HO_9, HO_375001, HO_383001, BK374, BK382, HB⟩ := hrel
                                        cases gk with
                                        | zero => exact absurd HA.out (by simp [laws_FnZeroOne.l1])
                                        | succ k5 =>
                                          have H := HA.out
                                          clear HA
                                          simp only [laws_FnZeroOne.l1] at H
                                          by_cases c99 : x10_5 ≥ 0
                                          · rw [if_pos c99] at H
                                            have c99b0 : decide (0 ≤ x10_5) = true := decide_eq_true c99
                                            clear c99
                                            by_cases c100 : 0 ≤ x10_5
                                            · rw [if_pos c100] at H
                                              have c100b0 : decide (0 ≤ x10_5) = true := decide_eq_true c100
                                              clear c100
                                              by_cases c101 : x10_5 < (x9_5.length : Int)
                                              · rw [if_pos c101] at H
                                                have c101b0 : decide (x10_5 < (x9_5.length : Int)) = true := decide_eq_true c101
                                                clear c101
                                                obtain ⟨y424, hy424⟩ : ∃ y_ : List Int, y_ = (x9_5.set (x10_5 : Int).toNat (wrap64 (1 - (rd x9_5 x10_5)))) := ⟨_, rfl⟩
                                                replace H : (if (rd y424 x10_5) = 0 then ((impl_NetRun.f t370 t371 y424).bind fun t426 => ((laws_sorted.f k5 t426).bind fun t429 => (some t429))) else (laws_FnZeroOne.l1 k5 y424 (wrap64 (x10_5 - 1)) t370 t371)) = some r := by first | (rw [hy424]; with_reducible exact H) | (have H2_ := (Option.bind_some _ _).symm.trans H; rw [hy424]; with_reducible exact H2_) | (have H2_ := (Option.bind_some _ _).symm.trans H; with_reducible exact H2_) | with_reducible exact H | (rw [hy424]; exact H) | exact H
                                                have Ny424 := Aside0.mk hy424
                                                clear hy424
                                                by_cases c103 : (rd y424 x10_5) = 0
                                                · rw [if_pos c103] at H
                                                  have c103b0 : ((rd y424 x10_5) == 0) = true := beq_iff_eq.mpr c103
                                                  have c103b1 : ((rd y424 x10_5) != 0) = false := bne_eq_false_iff_eq.mpr c103
                                                  clear c103
                                                  replace H := Option.bind_eq_some_iff.mp H
                                                  obtain ⟨t426, A1040, H⟩ := H
                                                  replace H : ((laws_sorted.f k5 t426).bind fun t429 => (some t429)) = some r := H
                                                  have A104 := Aside0.mk A1040
                                                  clear A1040
                                                  replace H := Option.bind_eq_some_iff.mp H
                                                  obtain ⟨t429, A1050, H⟩ := H
                                                  replace H : (some t429) = some r := H
                                                  have A105 := Aside0.mk A1050
                                                  clear A1050
                                                  obtain rfl := Option.some.inj H
                                                  obtain ⟨Ao106, co106, eo106⟩ := Kd.R_slice HO_9.out
                                                  subst eo106
                                                  have p423 : 0 ≤ (x10_5 : Int) := of_decide_eq_true (by first | (with_reducible assumption) | assumption)
                                                  have q423 : x10_5 < (x9_5.length : Int) := of_decide_eq_true (by first | (with_reducible assumption) | assumption)
                                                  obtain ⟨ad423, e423, hx423_0⟩ := Kd.at_int (Kd.R_reads' HO_9.out).2.2 x10_5 p423 q423
                                                  cases e423
                                                  replace p423 := eq_true p423
                                                  replace q423 := eq_true q423
                                                  have p102 : 0 ≤ (x10_5 : Int) := of_decide_eq_true (by first | (with_reducible assumption) | assumption)
                                                  have q102 : (x10_5 : Int) < ((x9_5.length : Int) : Int) := of_decide_eq_true (by first | (with_reducible assumption) | assumption)
                                                  obtain ⟨go102, co102, eo102, gb102, gl102, cl102, HG102⟩ := Kd.R_form HO_9.out (by omega)
                                                  (first | cases eo102 | (injection eo102 with ea_ en_ ec_; (first | subst ea_ | (injection ea_ with ea_; subst ea_)); subst ec_; clear en_))
                                                  have GB102 := Aside0.mk gb102
                                                  have GG102 := Aside0.mk HG102
                                                  clear gb102 gl102 HG102
                                                  (first | simp only [add_plain] at hx423_0 | skip)
                                                  obtain ⟨hx102_0, hf102_0⟩ := Kd.R_celln 0 HO_9.out (x10_5 : Int) p102 q102
                                                  replace p102 := eq_true p102
                                                  replace q102 := eq_true q102
                                                  have HP107 := Kd.R_putg HO_9.out (x10_5 : Int) (wrap64 (1 - (rd x9_5 x10_5)))
                                                  go_wp2_with (first | ((with_reducible refine gate_store (t := 3) (p := 113) rfl ?_); refine store_event (t := 3) (p := 113) (v := ?vo_w108) (w1 := (wr.setCell ⟨go102, (x10_5 : Int).toNat, none⟩ (.int .i64 (wrap64 (1 - (rd x9_5 x10_5)))))) ?hg ?ho ?hn ?hr ?_; (case ho => rfl); (case hg => rfl); (case hn => rfl); (case hr => first | (go_simp; done) | (go_simp; rfl)); intro w108 hw; have hg : wr.grownBy w108 (some go102) := (by rw [hw]; exact HP107.2); have hp_ : Kd.R (Kd.int .i64) 3 w108 w.heap.size (fun _ => True) (.slice (some ⟨go102, 0, none⟩) x9_5.length co106) y424 := (by rw [hw, Ny424.out]; exact HP107.1); clear HP107; have n0_ := Aside0.mk (hp_); have n1_ := Aside0.mk (Kd.R_over' (v := (.slice (some ⟨go102, 0, none⟩) x9_5.length co106)) (by (with_reducible repeat (first | apply Kd.R_alloc | apply Kd.R_drewN | apply Kd.R_drew)); exact HO_375001.out) (Kd.R_typed HO_9.out) (by decide) hg); have n2_ := Aside0.mk (Kd.R_over' (v := (.slice (some ⟨go102, 0, none⟩) x9_5.length co106)) (by (with_reducible repeat (first | apply Kd.R_alloc | apply Kd.R_drewN | apply Kd.R_drew)); exact HO_383001.out) (Kd.R_typed HO_9.out) (by decide) hg); have n3_ := Aside0.mk (blk_grown (g := gb374) (o := .cells #[.int .i64 t370, .slice Ao10 t371.length co10] 28 (0, 0)) (by (with_reducible repeat (first | refine blk_drewN ?_ _ | refine blk_drew ?_ | refine blk_alloc ?_ _)); exact BK374.out) hg (Kd.R_ne HO_9.out BK374.out (by decide))); have n4_ := Aside0.mk (blk_grown (g := gb382) (o := .cells #[.int .i64 t375, .slice Ao15 t376.length co15] 28 (0, 0)) (by (with_reducible repeat (first | refine blk_drewN ?_ _ | refine blk_drew ?_ | refine blk_alloc ?_ _)); exact BK382.out) hg (Kd.R_ne HO_9.out BK382.out (by decide))); have n5_ := Aside0.mk ((by rw [hw]; exact below_set (HB.out) GB102.out : Below w.heap.size w w108)); clear HO_9; clear HO_375001; clear HO_383001; clear BK374; clear BK382; clear HB; have HO_9 := n0_; have HO_375001 := n1_; have HO_383001 := n2_; have BK374 := n3_; have BK382 := n4_; have HB := n5_; clear n0_ n1_ n2_ n3_ n4_ n5_; clear hg hw hp_; have p425 : 0 ≤ (x10_5 : Int) := of_decide_eq_true (by first | (with_reducible assumption) | assumption); have q425 : x10_5 < (y424.length : Int) := (by have h_ : (x10_5 : Int) < ((x9_5.length : Int) : Int) := of_decide_eq_true (by first | (with_reducible assumption) | assumption); first | (have e_ := (Kd.R_reads' HO_9.out).1; omega) | simpa only [Ny424.out, List.length_set] using h_); have ql425 : ((x10_5 : Int) < ((x9_5.length : Int) : Int)) = True := eq_true (of_decide_eq_true (by first | (with_reducible assumption) | assumption)); obtain ⟨ad425, e425, hx425_0⟩ := Kd.at_int (Kd.R_reads' HO_9.out).2.2 x10_5 p425 q425; obtain rfl : (⟨go102, 0, none⟩ : Addr) = ad425 := (by injection e425); (first | simp only [add_plain] at hx425_0 | simp only [add_at] at hx425_0 | simp only [Addr.add, Nat.zero_add] at hx425_0 | skip); replace p425 := eq_true p425; replace q425 := eq_true q425; have hnb109 := NB374_382.out; have hnc109 := NB382_374.out; have hcz110_0 : w108.cell? ⟨gb374, 0, none⟩ = some (.int .i64 t370) := (blk_cell BK374.out 0).trans rfl; have hcz110_1 : w108.cell? ⟨gb374, 1, none⟩ = some (.slice Ao10 t371.length co10) := (blk_cell BK374.out 1).trans rfl; have hfz110_0 := blk_frozen BK374.out 0; have hfz110_1 := blk_frozen BK374.out 1) | ((with_reducible refine gate_callee (f := 12) rfl ?_); refine goesL_ (some 121) rfl rfl Try.func12 (by kernel_rfl) rfl #[.agg #[.int .i64 t370, .slice Ao10 t371.length co10], .slice (some ⟨go102, 0, none⟩) y424.length co106] rfl (by (try simp only [List.map_toArray, List.map_cons, List.map_nil]); first | done | (rw [show y424.length = x9_5.length from (Kd.R_reads' HO_9.out).1.symm] <;> rfl) | rfl | (simp only [List.length_drop, List.length_take]; rfl)) ?_; (with_reducible refine (impl_NetRun.calls t370 _ _ t371 _ _ y424 t426 _ ?side1 ?side2 ?side3 ?side4 A104.out).mono ?_); (case side1 => repeat (first | exact (Kd.R_reads' HO_375001.out).2.2 | (with_reducible refine Kd.C_alloc ?_ _) | (with_reducible refine Kd.C_drewN ?_ _) | (with_reducible refine Kd.C_drew ?_))); (case side2 => exact (Kd.R_reads' HO_375001.out).2.1); (case side3 => repeat (first | exact (Kd.R_reads' HO_9.out).2.2 | (with_reducible refine Kd.C_alloc ?_ _) | (with_reducible refine Kd.C_drewN ?_ _) | (with_reducible refine Kd.C_drew ?_))); (case side4 => rw [show y424.length = x9_5.length from (Kd.R_reads' HO_9.out).1.symm]; exact (Kd.R_reads' HO_9.out).2.1); rintro e w111 ⟨v427, rfl, ho0, hb⟩; refine ⟨_, rfl, ?_⟩; have n0_ := Aside0.mk (Kd.R_elder' (by (with_reducible repeat (first | apply Kd.R_alloc | apply Kd.R_drewN | apply Kd.R_drew)); exact HO_9.out) (Kd.R_base ho0) hb); have n1_ := Aside0.mk (Kd.R_below (by (with_reducible repeat (first | apply Kd.R_alloc | apply Kd.R_drewN | apply Kd.R_drew)); exact HO_375001.out) hb); have n2_ := Aside0.mk (Kd.R_below (by (with_reducible repeat (first | apply Kd.R_alloc | apply Kd.R_drewN | apply Kd.R_drew)); exact HO_383001.out) hb); have n3_ := Aside0.mk (Kd.R_lower (Kd.R_new' ho0 (Kd.R_lt (by (with_reducible repeat (first | apply Kd.R_alloc | apply Kd.R_drewN | apply Kd.R_drew)); exact HO_9.out))) (below_size (by repeat (first | (with_reducible first | exact HB.out | apply below_alloc | apply pw_below_drewN | apply below_drew1 | refine below_set ?_ GE374.out | refine below_set ?_ GE382.out) | exact HB.out)))); have n4_ := Aside0.mk (blk_below (g := gb374) (o := .cells #[.int .i64 t370, .slice Ao10 t371.length co10] 28 (0, 0)) (by (with_reducible repeat (first | refine blk_drewN ?_ _ | refine blk_drew ?_ | refine blk_alloc ?_ _)); exact BK374.out) hb); have n5_ := Aside0.mk (blk_below (g := gb382) (o := .cells #[.int .i64 t375, .slice Ao15 t376.length co15] 28 (0, 0)) (by (with_reducible repeat (first | refine blk_drewN ?_ _ | refine blk_drew ?_ | refine blk_alloc ?_ _)); exact BK382.out) hb); have n6_ := Aside0.mk (below_step (by repeat (first | (with_reducible first | exact HB.out | apply below_alloc | apply pw_below_drewN | apply below_drew1 | refine below_set ?_ GE374.out | refine below_set ?_ GE382.out) | exact HB.out)) hb); clear HO_9; clear HO_375001; clear HO_383001; clear BK374; clear BK382; clear HB; have HO_9 := n0_; have HO_375001 := n1_; have HO_383001 := n2_; have HO428 := n3_; have BK374 := n4_; have BK382 := n5_; have HB := n6_; clear n0_ n1_ n2_ n3_ n4_ n5_ n6_; (try clear hb); (try clear hb2); (try clear hk); (try clear hi); (try clear ho0); obtain ⟨Ao112, co112, eo112⟩ := Kd.R_slice HO428.out; subst eo112) | ((with_reducible refine gate_callee (f := 13) rfl ?_); refine goesL_ (some 122) rfl rfl Try.func13 (by kernel_rfl) rfl #[.slice Ao112 t426.length co112] rfl (by (try simp only [List.map_toArray, List.map_cons, List.map_nil]); first | done | rfl | (simp only [List.length_drop, List.length_take]; rfl)) ?_; (with_reducible refine (laws_sorted.calls k5 _ _ t426 t429 _ ?side1 ?side2 A105.out).mono ?_); (case side1 => repeat (first | exact (Kd.R_reads' HO428.out).2.2 | (with_reducible refine Kd.C_alloc ?_ _) | (with_reducible refine Kd.C_drewN ?_ _) | (with_reducible refine Kd.C_drew ?_))); (case side2 => exact (Kd.R_reads' HO428.out).2.1); rintro e w' ⟨rfl, ⟨nd, rfl⟩⟩; refine ⟨_, rfl, ?_⟩))
                                                  go_ret
                                                  exact ⟨by first | rfl | (simp [errW_none, errW_some] <;> rfl) | (simp [*, errW_none, errW_some] <;> rfl), by repeat (first | (with_reducible first | exact HB.out | apply below_alloc | apply pw_below_drewN | apply below_drew1 | refine below_set ?_ GE374.out | refine below_set ?_ GE382.out) | exact HB.out)⟩
                                                · rw [if_neg c103] at H
                                                  have c103b0 : ((rd y424 x10_5) == 0) = false := beq_eq_false_iff_ne.mpr c103
                                                  have c103b1 : ((rd y424 x10_5) != 0) = true := bne_iff_ne.mpr c103
                                                  have H' := Aside0.mk H
                                                  clear H
                                                  obtain ⟨Ao113, co113, eo113⟩ := Kd.R_slice HO_9.out
                                                  subst eo113
                                                  have p423 : 0 ≤ (x10_5 : Int) := of_decide_eq_true (by first | (with_reducible assumption) | assumption)
                                                  have q423 : x10_5 < (x9_5.length : Int) := of_decide_eq_true (by first | (with_reducible assumption) | assumption)
                                                  obtain ⟨ad423, e423, hx423_0⟩ := Kd.at_int (Kd.R_reads' HO_9.out).2.2 x10_5 p423 q423
                                                  cases e423
                                                  replace p423 := eq_true p423
                                                  replace q423 := eq_true q423
                                                  have p102 : 0 ≤ (x10_5 : Int) := of_decide_eq_true (by first | (with_reducible assumption) | assumption)
                                                  have q102 : (x10_5 : Int) < ((x9_5.length : Int) : Int) := of_decide_eq_true (by first | (with_reducible assumption) | assumption)
                                                  obtain ⟨go102, co102, eo102, gb102, gl102, cl102, HG102⟩ := Kd.R_form HO_9.out (by omega)
                                                  (first | cases eo102 | (injection eo102 with ea_ en_ ec_; (first | subst ea_ | (injection ea_ with ea_; subst ea_)); subst ec_; clear en_))
                                                  have GB102 := Aside0.mk gb102
                                                  have GG102 := Aside0.mk HG102
                                                  clear gb102 gl102 HG102
                                                  (first | simp only [add_plain] at hx423_0 | skip)
                                                  obtain ⟨hx102_0, hf102_0⟩ := Kd.R_celln 0 HO_9.out (x10_5 : Int) p102 q102
                                                  replace p102 := eq_true p102
                                                  replace q102 := eq_true q102
                                                  have HP114 := Kd.R_putg HO_9.out (x10_5 : Int) (wrap64 (1 - (rd x9_5 x10_5)))
                                                  go_wp2_with (first | ((with_reducible refine gate_store (t := 3) (p := 113) rfl ?_); refine store_event (t := 3) (p := 113) (v := ?vo_w115) (w1 := (wr.setCell ⟨go102, (x10_5 : Int).toNat, none⟩ (.int .i64 (wrap64 (1 - (rd x9_5 x10_5)))))) ?hg ?ho ?hn ?hr ?_; (case ho => rfl); (case hg => rfl); (case hn => rfl); (case hr => first | (go_simp; done) | (go_simp; rfl)); intro w115 hw; have hg : wr.grownBy w115 (some go102) := (by rw [hw]; exact HP114.2); have hp_ : Kd.R (Kd.int .i64) 3 w115 w.heap.size (fun _ => True) (.slice (some ⟨go102, 0, none⟩) x9_5.length co113) y424 := (by rw [hw, Ny424.out]; exact HP114.1); clear HP114; have n0_ := Aside0.mk (hp_); have n1_ := Aside0.mk (Kd.R_over' (v := (.slice (some ⟨go102, 0, none⟩) x9_5.length co113)) (by (with_reducible repeat (first | apply Kd.R_alloc | apply Kd.R_drewN | apply Kd.R_drew)); exact HO_375001.out) (Kd.R_typed HO_9.out) (by decide) hg); have n2_ := Aside0.mk (Kd.R_over' (v := (.slice (some ⟨go102, 0, none⟩) x9_5.length co113)) (by (with_reducible repeat (first | apply Kd.R_alloc | apply Kd.R_drewN | apply Kd.R_drew)); exact HO_383001.out) (Kd.R_typed HO_9.out) (by decide) hg); have n3_ := Aside0.mk (blk_grown (g := gb374) (o := .cells #[.int .i64 t370, .slice Ao10 t371.length co10] 28 (0, 0)) (by (with_reducible repeat (first | refine blk_drewN ?_ _ | refine blk_drew ?_ | refine blk_alloc ?_ _)); exact BK374.out) hg (Kd.R_ne HO_9.out BK374.out (by decide))); have n4_ := Aside0.mk (blk_grown (g := gb382) (o := .cells #[.int .i64 t375, .slice Ao15 t376.length co15] 28 (0, 0)) (by (with_reducible repeat (first | refine blk_drewN ?_ _ | refine blk_drew ?_ | refine blk_alloc ?_ _)); exact BK382.out) hg (Kd.R_ne HO_9.out BK382.out (by decide))); have n5_ := Aside0.mk ((by rw [hw]; exact below_set (HB.out) GB102.out : Below w.heap.size w w115)); clear HO_9; clear HO_375001; clear HO_383001; clear BK374; clear BK382; clear HB; have HO_9 := n0_; have HO_375001 := n1_; have HO_383001 := n2_; have BK374 := n3_; have BK382 := n4_; have HB := n5_; clear n0_ n1_ n2_ n3_ n4_ n5_; clear hg hw hp_; have p425 : 0 ≤ (x10_5 : Int) := of_decide_eq_true (by first | (with_reducible assumption) | assumption); have q425 : x10_5 < (y424.length : Int) := (by have h_ : (x10_5 : Int) < ((x9_5.length : Int) : Int) := of_decide_eq_true (by first | (with_reducible assumption) | assumption); first | (have e_ := (Kd.R_reads' HO_9.out).1; omega) | simpa only [Ny424.out, List.length_set] using h_); have ql425 : ((x10_5 : Int) < ((x9_5.length : Int) : Int)) = True := eq_true (of_decide_eq_true (by first | (with_reducible assumption) | assumption)); obtain ⟨ad425, e425, hx425_0⟩ := Kd.at_int (Kd.R_reads' HO_9.out).2.2 x10_5 p425 q425; obtain rfl : (⟨go102, 0, none⟩ : Addr) = ad425 := (by injection e425); (first | simp only [add_plain] at hx425_0 | simp only [add_at] at hx425_0 | simp only [Addr.add, Nat.zero_add] at hx425_0 | skip); replace p425 := eq_true p425; replace q425 := eq_true q425))
                                                  go_roundg k5
                                                  case measure => have := HJ5.out; have := HK2.out; have := HJ45.out; have := HJ75.out; have := HK5.out; omega
                                                  case rel => exact ⟨(y424), (wrap64 (x10_5 - 1)), (by first | rfl | (simp; done) | (simp [*]; done)), H', ⟨by have := HJ5.out; have := HK2.out; have := HJ45.out; have := HJ75.out; have := HK5.out; omega⟩, ⟨by (with_reducible repeat (first | apply Kd.R_alloc | apply Kd.R_drewN | apply Kd.R_drew)); exact HO_9.out⟩, ⟨by (with_reducible repeat (first | apply Kd.R_alloc | apply Kd.R_drewN | apply Kd.R_drew)); exact HO_375001.out⟩, ⟨by (with_reducible repeat (first | apply Kd.R_alloc | apply Kd.R_drewN | apply Kd.R_drew)); exact HO_383001.out⟩, ⟨by (with_reducible repeat (first | refine blk_drewN ?_ _ | refine blk_drew ?_ | refine blk_alloc ?_ _)); exact BK374.out⟩, ⟨by (with_reducible repeat (first | refine blk_drewN ?_ _ | refine blk_drew ?_ | refine blk_alloc ?_ _)); exact BK382.out⟩, ⟨by repeat (first | (with_reducible first | exact HB.out | apply below_alloc | apply pw_below_drewN | apply below_drew1 | refine below_set ?_ GE374.out | refine below_set ?_ GE382.out) | exact HB.out)⟩⟩
                                              · rw [if_neg c101] at H
                                                exact absurd H (by simp)
                                            · rw [if_neg c100] at H
                                              exact absurd H (by simp)
                                          · rw [if_neg c99] at H
                                            have c99b0 : decide (0 ≤ x10_5) = false := decide_eq_false c99
                                            clear c99
                                            exact absurd ((Option.some.inj H).trans HTRUE_.out) (by decide)
                                    · rw [if_neg c93] at H
                                      exact absurd H (by simp)
                            · rw [if_neg c74] at H
                              exact absurd H (by simp)
                  · rw [if_neg c43] at H
                    exact absurd H (by simp)
                · rw [if_neg c42] at H
                  exact absurd H (by simp)

/-- THE ONE PURE STATEMENT of laws_FnZeroOne: yours. -/
def laws_FnZeroOne.Pure : Prop := ∀ (l0 : List Int), l0.length ≤ maxLen → l0.length * 1 ≤ 140737488351232 → (∀ x ∈ l0, (Lit.int .u8 x).wf = true) → ∃ k, laws_FnZeroOne.f k l0 = some true
theorem laws_FnZeroOne.walk (P : laws_FnZeroOne.Pure) (a0 : Option Addr) (len0 cap0 : Nat) (z0 : List Int) (w : World) (w0 : (a0 = none ∧ len0 = 0 ∧ cap0 = 0 ∧ z0 = []) ∨ ∃ x, a0 = some x ∧ len0 ≤ cap0 ∧ cap0 ≤ maxLen ∧ z0.length = cap0 ∧ (∀ i, i < z0.length → w.cell? (x.add i) = some (.int .u8 (z0.getD i 0))) ∧ ∀ n ∈ z0, (Lit.int .u8 n).wf = true) (y0 : len0 * 1 ≤ 140737488351232) :
    Calls Try.prog 6 #[.slice a0 len0 cap0] w fun e w' => e = .returned (.bool true) ∧ Below w.heap.size w w' := by
  obtain ⟨l0, rfl, hr0, hm0, hw0, hc0⟩ := ReadsInt.ofRowC w0
  obtain ⟨k, h⟩ := P l0 hm0 y0 hw0
  refine (laws_FnZeroOne.calls k _ _ l0 true w (Kd.C_of_reads (d := (0 : Int)) (h1 := fun _ => rfl) hr0) hc0 h).mono ?_
  rintro e w' ⟨rfl, hd⟩
  exact ⟨rfl, hd⟩

end Go.Proofs.Ytekfpjblakindaa.PFnZeroOne

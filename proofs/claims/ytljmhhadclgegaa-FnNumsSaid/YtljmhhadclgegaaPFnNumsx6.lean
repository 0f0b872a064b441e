-- Laid by a program of this session: what the print of the kit writes, and contracts of the session where the print takes no function. Lean checks it.
import Derived.Test.YtljmhhadclgegaaPFnNumsx0
import Derived.Test.YtljmhhadclgegaaPFnNumsx1
import Derived.Test.YtljmhhadclgegaaPFnNumsx2
import Derived.Test.YtljmhhadclgegaaPFnNumsx3
import Derived.Test.YtljmhhadclgegaaPFnNumsx4
import Derived.Test.YtljmhhadclgegaaPFnNumsx5
namespace Go.Proofs.Ytljmhhadclgegaa.PFnNums
open Go.RowKit Go.Proofs.YtljmhhadclgegaaW.PrintWords Go.Proofs.YtljmhhadclgegaaW.PrintLast Go.Proofs.YtljmhhadclgegaaW.PrintMore
attribute [local go_sem] max2_int min2_int max_two min_two max_three min_three max_four min_four   -- for this text's walks alone
set_option linter.unusedVariables false
set_option linter.unusedSimpArgs false

/-! ### laws_FnNums: function 3 -/
mutual
def laws_FnNums.j0 : Nat → List Int → Int → List Int → Bool → Option (Bool)
  | 0, _, _, _, _ => none
  | k + 1, x3, x4, x5, x61 => if x61 = true then ((impl_NumsOf.f k x3 x4).bind fun t249 => ((spec_NumsOf.f k x3 x4).bind fun t252 => (some ((t249.length : Int) == (t252.length : Int))))) else (laws_FnNums.l0 k x3 x4 x5 1 0)
def laws_FnNums.l0 : Nat → List Int → Int → List Int → Int → Int → Option (Bool)
  | 0, _, _, _, _, _ => none
  | k + 1, x3, x4, x5, x7, x8 => if x8 < x4 then (laws_FnNums.l0 k x3 x4 x5 (wrap64 (2 * x7)) (wrap64 (x8 + 1))) else (laws_FnNums.l1 k x3 x4 x5 x7 0)
def laws_FnNums.l1 : Nat → List Int → Int → List Int → Int → Int → Option (Bool)
  | 0, _, _, _, _, _ => none
  | k + 1, x3, x4, x5, x7, x9 => if x9 < (x3.length : Int) then (if 0 ≤ x9 then (if (rd x3 x9) < 0 then ((impl_NumsOf.f k x3 x4).bind fun t256 => (some ((t256.length : Int) == 0))) else (if (rd x3 x9) ≥ x7 then ((impl_NumsOf.f k x3 x4).bind fun t260 => (some ((t260.length : Int) == 0))) else (laws_FnNums.l1 k x3 x4 x5 x7 (wrap64 (x9 + 1))))) else (none)) else (laws_FnNums.l2 k x3 x4 x5 x7 (([] : List Int)) 0)
def laws_FnNums.l2 : Nat → List Int → Int → List Int → Int → List Int → Int → Option (Bool)
  | 0, _, _, _, _, _, _ => none
  | k + 1, x3, x4, x5, x7, x10, x11 => if x11 < (x5.length : Int) then (if 0 ≤ x11 then (if x7 = 0 then (none) else (if (Int.tmod (rd x5 x11) x7) < 0 then (if x10.length < 17592186044416 then (laws_FnNums.l2 k x3 x4 x5 x7 (x10 ++ [wrap64 ((Int.tmod (rd x5 x11) x7) + x7)]) (wrap64 (x11 + 1))) else (none)) else (if x10.length < 17592186044416 then (laws_FnNums.l2 k x3 x4 x5 x7 (x10 ++ [Int.tmod (rd x5 x11) x7]) (wrap64 (x11 + 1))) else (none)))) else (none)) else ((impl_NumsOf.f k x3 x4).bind fun t273 => ((impl_NumsOf.f k x10 x4).bind fun t276 => (if (t273.length : Int) = x4 then (laws_FnNums.j4 k x3 x7 x10 t273 t276 ((t276.length : Int) != x4)) else (laws_FnNums.j4 k x3 x7 x10 t273 t276 true))))
def laws_FnNums.j4 : Nat → List Int → Int → List Int → List Int → List Int → Bool → Option (Bool)
  | 0, _, _, _, _, _, _ => none
  | k + 1, x3, x7, x10, x13, x14, x139 => if x139 = true then (some false) else ((impl_NumsAdd.f k x13 x14).bind fun t279 => ((impl_NumsMin.f k x13 x14).bind fun t282 => ((impl_NumsLess.f k x13 x14).bind fun t285 => (laws_FnNums.l3 k x3 x7 x10 x13 t279 t282 t285 0))))
def laws_FnNums.l3 : Nat → List Int → Int → List Int → List Int → List Int → List Int → Int → Int → Option (Bool)
  | 0, _, _, _, _, _, _, _, _ => none
  | k + 1, x3, x7, x10, x13, x15, x16, x17, x18 => if x18 < 64 then (if x18 < (x3.length : Int) then (if 0 ≤ x18 then (laws_FnNums.j6 k x3 x7 x10 x13 x15 x16 x17 x18 (rd x3 x18) 0) else (none)) else (laws_FnNums.j6 k x3 x7 x10 x13 x15 x16 x17 x18 0 0)) else (some true)
def laws_FnNums.j6 : Nat → List Int → Int → List Int → List Int → List Int → List Int → Int → Int → Int → Int → Option (Bool)
  | 0, _, _, _, _, _, _, _, _, _, _ => none
  | k + 1, x3, x7, x10, x13, x15, x16, x17, x18, x19, x20 => if x18 < (x10.length : Int) then (if 0 ≤ x18 then (laws_FnNums.j7 k x3 x7 x10 x13 x15 x16 x17 x18 x19 (rd x10 x18)) else (none)) else (laws_FnNums.j7 k x3 x7 x10 x13 x15 x16 x17 x18 x19 x20)
def laws_FnNums.j7 : Nat → List Int → Int → List Int → List Int → List Int → List Int → Int → Int → Int → Int → Option (Bool)
  | 0, _, _, _, _, _, _, _, _, _, _ => none
  | k + 1, x3, x7, x10, x13, x15, x16, x17, x18, x19, x20 => if 0 ≤ (IntKind.u64.wrap (x18)) then ((impl_NumAt.f k x13 x18).bind fun t288 => (if t288 = x19 then ((impl_NumAt.f k x15 x18).bind fun t289 => (if x7 = 0 then (none) else (if t289 = (Int.tmod (wrap64 (x19 + x20)) x7) then ((impl_NumAt.f k x16 x18).bind fun t290 => (if t290 = (mn x19 x20) then (if (((wrap64 (Go.bits .and .u64 (shr .u64 x17 (IntKind.u64.wrap (x18))) 1)) == 1) != (decide (x19 < x20))) = true then (some false) else (laws_FnNums.l3 k x3 x7 x10 x13 x15 x16 x17 (wrap64 (x18 + 1)))) else (some false))) else (some false)))) else (some false))) else (none)
end
def laws_FnNums.f (k : Nat) (l0 : List Int) : Option (Bool) := (laws_big.f l0).bind fun t236 => (if t236 = true then (some true) else ((spec_DrawNumsOf.f k l0).bind fun bt237 => (if 0 ≤ (wrap64 ((l0.length : Int) / 2)) then (if (wrap64 ((l0.length : Int) / 2)) ≤ (l0.length : Int) then ((spec_DrawNumsOf.f k (l0.drop ((wrap64 ((l0.length : Int) / 2)) : Int).toNat)).bind fun bt242 => ((spec_NumsOf.f k bt237.1 bt237.2).bind fun t246 => (if (t246.length : Int) = bt237.2 then (if (bt242.1.length : Int) > 64 then (laws_FnNums.j0 k bt237.1 bt237.2 bt242.1 true) else (if bt237.2 < 0 then (laws_FnNums.j0 k bt237.1 bt237.2 bt242.1 true) else (if bt237.2 > 16 then (laws_FnNums.j0 k bt237.1 bt237.2 bt242.1 true) else (laws_FnNums.j0 k bt237.1 bt237.2 bt242.1 (decide ((bt237.1.length : Int) > 64)))))) else (laws_FnNums.j0 k bt237.1 bt237.2 bt242.1 true)))) else (none)) else (none))))
theorem laws_FnNums.mono_l : ∀ k, (∀ y0 y1 y2 y3, LeO (laws_FnNums.j0 k y0 y1 y2 y3) (laws_FnNums.j0 (k + 1) y0 y1 y2 y3)) ∧ (∀ y0 y1 y2 y3 y4, LeO (laws_FnNums.l0 k y0 y1 y2 y3 y4) (laws_FnNums.l0 (k + 1) y0 y1 y2 y3 y4)) ∧ (∀ y0 y1 y2 y3 y4, LeO (laws_FnNums.l1 k y0 y1 y2 y3 y4) (laws_FnNums.l1 (k + 1) y0 y1 y2 y3 y4)) ∧ (∀ y0 y1 y2 y3 y4 y5, LeO (laws_FnNums.l2 k y0 y1 y2 y3 y4 y5) (laws_FnNums.l2 (k + 1) y0 y1 y2 y3 y4 y5)) ∧ (∀ y0 y1 y2 y3 y4 y5, LeO (laws_FnNums.j4 k y0 y1 y2 y3 y4 y5) (laws_FnNums.j4 (k + 1) y0 y1 y2 y3 y4 y5)) ∧ (∀ y0 y1 y2 y3 y4 y5 y6 y7, LeO (laws_FnNums.l3 k y0 y1 y2 y3 y4 y5 y6 y7) (laws_FnNums.l3 (k + 1) y0 y1 y2 y3 y4 y5 y6 y7)) ∧ (∀ y0 y1 y2 y3 y4 y5 y6 y7 y8 y9, LeO (laws_FnNums.j6 k y0 y1 y2 y3 y4 y5 y6 y7 y8 y9) (laws_FnNums.j6 (k + 1) y0 y1 y2 y3 y4 y5 y6 y7 y8 y9)) ∧ (∀ y0 y1 y2 y3 y4 y5 y6 y7 y8 y9, LeO (laws_FnNums.j7 k y0 y1 y2 y3 y4 y5 y6 y7 y8 y9) (laws_FnNums.j7 (k + 1) y0 y1 y2 y3 y4 y5 y6 y7 y8 y9))
  | 0 => ⟨fun _ _ _ _ r h => by simp [laws_FnNums.j0] at h, fun _ _ _ _ _ r h => by simp [laws_FnNums.l0] at h, fun _ _ _ _ _ r h => by simp [laws_FnNums.l1] at h, fun _ _ _ _ _ _ r h => by simp [laws_FnNums.l2] at h, fun _ _ _ _ _ _ r h => by simp [laws_FnNums.j4] at h, fun _ _ _ _ _ _ _ _ r h => by simp [laws_FnNums.l3] at h, fun _ _ _ _ _ _ _ _ _ _ r h => by simp [laws_FnNums.j6] at h, fun _ _ _ _ _ _ _ _ _ _ r h => by simp [laws_FnNums.j7] at h⟩
  | k + 1 => by
    obtain ⟨ih0, ih1, ih2, ih3, ih4, ih5, ih6, ih7⟩ := laws_FnNums.mono_l k
    refine ⟨?_, ?_, ?_, ?_, ?_, ?_, ?_, ?_⟩
    · intro y0 y1 y2 y3
      unfold laws_FnNums.j0
      repeat' first
      | (with_reducible exact ih0 _ _ _ _)
      | (with_reducible exact ih1 _ _ _ _ _)
      | (with_reducible exact ih2 _ _ _ _ _)
      | (with_reducible exact ih3 _ _ _ _ _ _)
      | (with_reducible exact ih4 _ _ _ _ _ _)
      | (with_reducible exact ih5 _ _ _ _ _ _ _ _)
      | (with_reducible exact ih6 _ _ _ _ _ _ _ _ _ _)
      | (with_reducible exact ih7 _ _ _ _ _ _ _ _ _ _)
      | (with_reducible exact impl_NumAt.mono _ _ _)
      | (with_reducible exact impl_NumsAdd.mono _ _ _)
      | (with_reducible exact impl_NumsLess.mono _ _ _)
      | (with_reducible exact impl_NumsMin.mono _ _ _)
      | (with_reducible exact impl_NumsOf.mono _ _ _)
      | (with_reducible exact spec_DrawNumsOf.mono _ _)
      | (with_reducible exact spec_NumsOf.mono _ _ _)
      | (with_reducible exact LeO.refl _)
      | (with_reducible exact LeO.none _)
      | (with_reducible refine LeO.ite ?_ ?_)
      | (with_reducible refine LeO.bind ?_ (fun _ => ?_))
      | exact ih0 _ _ _ _
      | exact ih1 _ _ _ _ _
      | exact ih2 _ _ _ _ _
      | exact ih3 _ _ _ _ _ _
      | exact ih4 _ _ _ _ _ _
      | exact ih5 _ _ _ _ _ _ _ _
      | exact ih6 _ _ _ _ _ _ _ _ _ _
      | exact ih7 _ _ _ _ _ _ _ _ _ _
      | exact impl_NumAt.mono _ _ _
      | exact impl_NumsAdd.mono _ _ _
      | exact impl_NumsLess.mono _ _ _
      | exact impl_NumsMin.mono _ _ _
      | exact impl_NumsOf.mono _ _ _
      | exact spec_DrawNumsOf.mono _ _
      | exact spec_NumsOf.mono _ _ _
      | exact LeO.none _
      | refine LeO.ite ?_ ?_
      | refine LeO.bind ?_ (fun _ => ?_)
    · intro y0 y1 y2 y3 y4
      unfold laws_FnNums.l0
      repeat' first
      | (with_reducible exact ih0 _ _ _ _)
      | (with_reducible exact ih1 _ _ _ _ _)
      | (with_reducible exact ih2 _ _ _ _ _)
      | (with_reducible exact ih3 _ _ _ _ _ _)
      | (with_reducible exact ih4 _ _ _ _ _ _)
      | (with_reducible exact ih5 _ _ _ _ _ _ _ _)
      | (with_reducible exact ih6 _ _ _ _ _ _ _ _ _ _)
      | (with_reducible exact ih7 _ _ _ _ _ _ _ _ _ _)
      | (with_reducible exact impl_NumAt.mono _ _ _)
      | (with_reducible exact impl_NumsAdd.mono _ _ _)
      | (with_reducible exact impl_NumsLess.mono _ _ _)
      | (with_reducible exact impl_NumsMin.mono _ _ _)
      | (with_reducible exact impl_NumsOf.mono _ _ _)
      | (with_reducible exact spec_DrawNumsOf.mono _ _)
      | (with_reducible exact spec_NumsOf.mono _ _ _)
      | (with_reducible exact LeO.refl _)
      | (with_reducible exact LeO.none _)
      | (with_reducible refine LeO.ite ?_ ?_)
      | (with_reducible refine LeO.bind ?_ (fun _ => ?_))
      | exact ih0 _ _ _ _
      | exact ih1 _ _ _ _ _
      | exact ih2 _ _ _ _ _
      | exact ih3 _ _ _ _ _ _
      | exact ih4 _ _ _ _ _ _
      | exact ih5 _ _ _ _ _ _ _ _
      | exact ih6 _ _ _ _ _ _ _ _ _ _
      | exact ih7 _ _ _ _ _ _ _ _ _ _
      | exact impl_NumAt.mono _ _ _
      | exact impl_NumsAdd.mono _ _ _
      | exact impl_NumsLess.mono _ _ _
      | exact impl_NumsMin.mono _ _ _
      | exact impl_NumsOf.mono _ _ _
      | exact spec_DrawNumsOf.mono _ _
      | exact spec_NumsOf.mono _ _ _
      | exact LeO.none _
      | refine LeO.ite ?_ ?_
      | refine LeO.bind ?_ (fun _ => ?_)
    · intro y0 y1 y2 y3 y4
      unfold laws_FnNums.l1
      repeat' first
      | (with_reducible exact ih0 _ _ _ _)
      | (with_reducible exact ih1 _ _ _ _ _)
      | (with_reducible exact ih2 _ _ _ _ _)
      | (with_reducible exact ih3 _ _ _ _ _ _)
      | (with_reducible exact ih4 _ _ _ _ _ _)
      | (with_reducible exact ih5 _ _ _ _ _ _ _ _)
      | (with_reducible exact ih6 _ _ _ _ _ _ _ _ _ _)
      | (with_reducible exact ih7 _ _ _ _ _ _ _ _ _ _)
      | (with_reducible exact impl_NumAt.mono _ _ _)
      | (with_reducible exact impl_NumsAdd.mono _ _ _)
      | (with_reducible exact impl_NumsLess.mono _ _ _)
      | (with_reducible exact impl_NumsMin.mono _ _ _)
      | (with_reducible exact impl_NumsOf.mono _ _ _)
      | (with_reducible exact spec_DrawNumsOf.mono _ _)
      | (with_reducible exact spec_NumsOf.mono _ _ _)
      | (with_reducible exact LeO.refl _)
      | (with_reducible exact LeO.none _)
      | (with_reducible refine LeO.ite ?_ ?_)
      | (with_reducible refine LeO.bind ?_ (fun _ => ?_))
      | exact ih0 _ _ _ _
      | exact ih1 _ _ _ _ _
      | exact ih2 _ _ _ _ _
      | exact ih3 _ _ _ _ _ _
      | exact ih4 _ _ _ _ _ _
      | exact ih5 _ _ _ _ _ _ _ _
      | exact ih6 _ _ _ _ _ _ _ _ _ _
      | exact ih7 _ _ _ _ _ _ _ _ _ _
      | exact impl_NumAt.mono _ _ _
      | exact impl_NumsAdd.mono _ _ _
      | exact impl_NumsLess.mono _ _ _
      | exact impl_NumsMin.mono _ _ _
      | exact impl_NumsOf.mono _ _ _
      | exact spec_DrawNumsOf.mono _ _
      | exact spec_NumsOf.mono _ _ _
      | exact LeO.none _
      | refine LeO.ite ?_ ?_
      | refine LeO.bind ?_ (fun _ => ?_)
    · intro y0 y1 y2 y3 y4 y5
      unfold laws_FnNums.l2
      repeat' first
      | (with_reducible exact ih0 _ _ _ _)
      | (with_reducible exact ih1 _ _ _ _ _)
      | (with_reducible exact ih2 _ _ _ _ _)
      | (with_reducible exact ih3 _ _ _ _ _ _)
      | (with_reducible exact ih4 _ _ _ _ _ _)
      | (with_reducible exact ih5 _ _ _ _ _ _ _ _)
      | (with_reducible exact ih6 _ _ _ _ _ _ _ _ _ _)
      | (with_reducible exact ih7 _ _ _ _ _ _ _ _ _ _)
      | (with_reducible exact impl_NumAt.mono _ _ _)
      | (with_reducible exact impl_NumsAdd.mono _ _ _)
      | (with_reducible exact impl_NumsLess.mono _ _ _)
      | (with_reducible exact impl_NumsMin.mono _ _ _)
      | (with_reducible exact impl_NumsOf.mono _ _ _)
      | (with_reducible exact spec_DrawNumsOf.mono _ _)
      | (with_reducible exact spec_NumsOf.mono _ _ _)
      | (with_reducible exact LeO.refl _)
      | (with_reducible exact LeO.none _)
      | (with_reducible refine LeO.ite ?_ ?_)
      | (with_reducible refine LeO.bind ?_ (fun _ => ?_))
      | exact ih0 _ _ _ _
      | exact ih1 _ _ _ _ _
      | exact ih2 _ _ _ _ _
      | exact ih3 _ _ _ _ _ _
      | exact ih4 _ _ _ _ _ _
      | exact ih5 _ _ _ _ _ _ _ _
      | exact ih6 _ _ _ _ _ _ _ _ _ _
      | exact ih7 _ _ _ _ _ _ _ _ _ _
      | exact impl_NumAt.mono _ _ _
      | exact impl_NumsAdd.mono _ _ _
      | exact impl_NumsLess.mono _ _ _
      | exact impl_NumsMin.mono _ _ _
      | exact impl_NumsOf.mono _ _ _
      | exact spec_DrawNumsOf.mono _ _
      | exact spec_NumsOf.mono _ _ _
      | exact LeO.none _
      | refine LeO.ite ?_ ?_
      | refine LeO.bind ?_ (fun _ => ?_)
    · intro y0 y1 y2 y3 y4 y5
      unfold laws_FnNums.j4
      repeat' first
      | (with_reducible exact ih0 _ _ _ _)
      | (with_reducible exact ih1 _ _ _ _ _)
      | (with_reducible exact ih2 _ _ _ _ _)
      | (with_reducible exact ih3 _ _ _ _ _ _)
      | (with_reducible exact ih4 _ _ _ _ _ _)
      | (with_reducible exact ih5 _ _ _ _ _ _ _ _)
      | (with_reducible exact ih6 _ _ _ _ _ _ _ _ _ _)
      | (with_reducible exact ih7 _ _ _ _ _ _ _ _ _ _)
      | (with_reducible exact impl_NumAt.mono _ _ _)
      | (with_reducible exact impl_NumsAdd.mono _ _ _)
      | (with_reducible exact impl_NumsLess.mono _ _ _)
      | (with_reducible exact impl_NumsMin.mono _ _ _)
      | (with_reducible exact impl_NumsOf.mono _ _ _)
      | (with_reducible exact spec_DrawNumsOf.mono _ _)
      | (with_reducible exact spec_NumsOf.mono _ _ _)
      | (with_reducible exact LeO.refl _)
      | (with_reducible exact LeO.none _)
      | (with_reducible refine LeO.ite ?_ ?_)
      | (with_reducible refine LeO.bind ?_ (fun _ => ?_))
      | exact ih0 _ _ _ _
      | exact ih1 _ _ _ _ _
      | exact ih2 _ _ _ _ _
      | exact ih3 _ _ _ _ _ _
      | exact ih4 _ _ _ _ _ _
      | exact ih5 _ _ _ _ _ _ _ _
      | exact ih6 _ _ _ _ _ _ _ _ _ _
      | exact ih7 _ _ _ _ _ _ _ _ _ _
      | exact impl_NumAt.mono _ _ _
      | exact impl_NumsAdd.mono _ _ _
      | exact impl_NumsLess.mono _ _ _
      | exact impl_NumsMin.mono _ _ _
      | exact impl_NumsOf.mono _ _ _
      | exact spec_DrawNumsOf.mono _ _
      | exact spec_NumsOf.mono _ _ _
      | exact LeO.none _
      | refine LeO.ite ?_ ?_
      | refine LeO.bind ?_ (fun _ => ?_)
    · intro y0 y1 y2 y3 y4 y5 y6 y7
      unfold laws_FnNums.l3
      repeat' first
      | (with_reducible exact ih0 _ _ _ _)
      | (with_reducible exact ih1 _ _ _ _ _)
      | (with_reducible exact ih2 _ _ _ _ _)
      | (with_reducible exact ih3 _ _ _ _ _ _)
      | (with_reducible exact ih4 _ _ _ _ _ _)
      | (with_reducible exact ih5 _ _ _ _ _ _ _ _)
      | (with_reducible exact ih6 _ _ _ _ _ _ _ _ _ _)
      | (with_reducible exact ih7 _ _ _ _ _ _ _ _ _ _)
      | (with_reducible exact impl_NumAt.mono _ _ _)
      | (with_reducible exact impl_NumsAdd.mono _ _ _)
      | (with_reducible exact impl_NumsLess.mono _ _ _)
      | (with_reducible exact impl_NumsMin.mono _ _ _)
      | (with_reducible exact impl_NumsOf.mono _ _ _)
      | (with_reducible exact spec_DrawNumsOf.mono _ _)
      | (with_reducible exact spec_NumsOf.mono _ _ _)
      | (with_reducible exact LeO.refl _)
      | (with_reducible exact LeO.none _)
      | (with_reducible refine LeO.ite ?_ ?_)
      | (with_reducible refine LeO.bind ?_ (fun _ => ?_))
      | exact ih0 _ _ _ _
      | exact ih1 _ _ _ _ _
      | exact ih2 _ _ _ _ _
      | exact ih3 _ _ _ _ _ _
      | exact ih4 _ _ _ _ _ _
      | exact ih5 _ _ _ _ _ _ _ _
      | exact ih6 _ _ _ _ _ _ _ _ _ _
      | exact ih7 _ _ _ _ _ _ _ _ _ _
      | exact impl_NumAt.mono _ _ _
      | exact impl_NumsAdd.mono _ _ _
      | exact impl_NumsLess.mono _ _ _
      | exact impl_NumsMin.mono _ _ _
      | exact impl_NumsOf.mono _ _ _
      | exact spec_DrawNumsOf.mono _ _
      | exact spec_NumsOf.mono _ _ _
      | exact LeO.none _
      | refine LeO.ite ?_ ?_
      | refine LeO.bind ?_ (fun _ => ?_)
    · intro y0 y1 y2 y3 y4 y5 y6 y7 y8 y9
      unfold laws_FnNums.j6
      repeat' first
      | (with_reducible exact ih0 _ _ _ _)
      | (with_reducible exact ih1 _ _ _ _ _)
      | (with_reducible exact ih2 _ _ _ _ _)
      | (with_reducible exact ih3 _ _ _ _ _ _)
      | (with_reducible exact ih4 _ _ _ _ _ _)
      | (with_reducible exact ih5 _ _ _ _ _ _ _ _)
      | (with_reducible exact ih6 _ _ _ _ _ _ _ _ _ _)
      | (with_reducible exact ih7 _ _ _ _ _ _ _ _ _ _)
      | (with_reducible exact impl_NumAt.mono _ _ _)
      | (with_reducible exact impl_NumsAdd.mono _ _ _)
      | (with_reducible exact impl_NumsLess.mono _ _ _)
      | (with_reducible exact impl_NumsMin.mono _ _ _)
      | (with_reducible exact impl_NumsOf.mono _ _ _)
      | (with_reducible exact spec_DrawNumsOf.mono _ _)
      | (with_reducible exact spec_NumsOf.mono _ _ _)
      | (with_reducible exact LeO.refl _)
      | (with_reducible exact LeO.none _)
      | (with_reducible refine LeO.ite ?_ ?_)
      | (with_reducible refine LeO.bind ?_ (fun _ => ?_))
      | exact ih0 _ _ _ _
      | exact ih1 _ _ _ _ _
      | exact ih2 _ _ _ _ _
      | exact ih3 _ _ _ _ _ _
      | exact ih4 _ _ _ _ _ _
      | exact ih5 _ _ _ _ _ _ _ _
      | exact ih6 _ _ _ _ _ _ _ _ _ _
      | exact ih7 _ _ _ _ _ _ _ _ _ _
      | exact impl_NumAt.mono _ _ _
      | exact impl_NumsAdd.mono _ _ _
      | exact impl_NumsLess.mono _ _ _
      | exact impl_NumsMin.mono _ _ _
      | exact impl_NumsOf.mono _ _ _
      | exact spec_DrawNumsOf.mono _ _
      | exact spec_NumsOf.mono _ _ _
      | exact LeO.none _
      | refine LeO.ite ?_ ?_
      | refine LeO.bind ?_ (fun _ => ?_)
    · intro y0 y1 y2 y3 y4 y5 y6 y7 y8 y9
      unfold laws_FnNums.j7
      repeat' first
      | (with_reducible exact ih0 _ _ _ _)
      | (with_reducible exact ih1 _ _ _ _ _)
      | (with_reducible exact ih2 _ _ _ _ _)
      | (with_reducible exact ih3 _ _ _ _ _ _)
      | (with_reducible exact ih4 _ _ _ _ _ _)
      | (with_reducible exact ih5 _ _ _ _ _ _ _ _)
      | (with_reducible exact ih6 _ _ _ _ _ _ _ _ _ _)
      | (with_reducible exact ih7 _ _ _ _ _ _ _ _ _ _)
      | (with_reducible exact impl_NumAt.mono _ _ _)
      | (with_reducible exact impl_NumsAdd.mono _ _ _)
      | (with_reducible exact impl_NumsLess.mono _ _ _)
      | (with_reducible exact impl_NumsMin.mono _ _ _)
      | (with_reducible exact impl_NumsOf.mono _ _ _)
      | (with_reducible exact spec_DrawNumsOf.mono _ _)
      | (with_reducible exact spec_NumsOf.mono _ _ _)
      | (with_reducible exact LeO.refl _)
      | (with_reducible exact LeO.none _)
      | (with_reducible refine LeO.ite ?_ ?_)
      | (with_reducible refine LeO.bind ?_ (fun _ => ?_))
      | exact ih0 _ _ _ _
      | exact ih1 _ _ _ _ _
      | exact ih2 _ _ _ _ _
      | exact ih3 _ _ _ _ _ _
      | exact ih4 _ _ _ _ _ _
      | exact ih5 _ _ _ _ _ _ _ _
      | exact ih6 _ _ _ _ _ _ _ _ _ _
      | exact ih7 _ _ _ _ _ _ _ _ _ _
      | exact impl_NumAt.mono _ _ _
      | exact impl_NumsAdd.mono _ _ _
      | exact impl_NumsLess.mono _ _ _
      | exact impl_NumsMin.mono _ _ _
      | exact impl_NumsOf.mono _ _ _
      | exact spec_DrawNumsOf.mono _ _
      | exact spec_NumsOf.mono _ _ _
      | exact LeO.none _
      | refine LeO.ite ?_ ?_
      | refine LeO.bind ?_ (fun _ => ?_)
theorem laws_FnNums.mono : ∀ a0 k, LeO (laws_FnNums.f k a0) (laws_FnNums.f (k + 1) a0) := by
  intro a0 k
  obtain ⟨ih0, ih1, ih2, ih3, ih4, ih5, ih6, ih7⟩ := laws_FnNums.mono_l k
  unfold laws_FnNums.f
  repeat' first
      | (with_reducible exact ih0 _ _ _ _)
      | (with_reducible exact ih1 _ _ _ _ _)
      | (with_reducible exact ih2 _ _ _ _ _)
      | (with_reducible exact ih3 _ _ _ _ _ _)
      | (with_reducible exact ih4 _ _ _ _ _ _)
      | (with_reducible exact ih5 _ _ _ _ _ _ _ _)
      | (with_reducible exact ih6 _ _ _ _ _ _ _ _ _ _)
      | (with_reducible exact ih7 _ _ _ _ _ _ _ _ _ _)
      | (with_reducible exact impl_NumAt.mono _ _ _)
      | (with_reducible exact impl_NumsAdd.mono _ _ _)
      | (with_reducible exact impl_NumsLess.mono _ _ _)
      | (with_reducible exact impl_NumsMin.mono _ _ _)
      | (with_reducible exact impl_NumsOf.mono _ _ _)
      | (with_reducible exact spec_DrawNumsOf.mono _ _)
      | (with_reducible exact spec_NumsOf.mono _ _ _)
      | (with_reducible exact LeO.refl _)
      | (with_reducible exact LeO.none _)
      | (with_reducible refine LeO.ite ?_ ?_)
      | (with_reducible refine LeO.bind ?_ (fun _ => ?_))
      | exact ih0 _ _ _ _
      | exact ih1 _ _ _ _ _
      | exact ih2 _ _ _ _ _
      | exact ih3 _ _ _ _ _ _
      | exact ih4 _ _ _ _ _ _
      | exact ih5 _ _ _ _ _ _ _ _
      | exact ih6 _ _ _ _ _ _ _ _ _ _
      | exact ih7 _ _ _ _ _ _ _ _ _ _
      | exact impl_NumAt.mono _ _ _
      | exact impl_NumsAdd.mono _ _ _
      | exact impl_NumsLess.mono _ _ _
      | exact impl_NumsMin.mono _ _ _
      | exact impl_NumsOf.mono _ _ _
      | exact spec_DrawNumsOf.mono _ _
      | exact spec_NumsOf.mono _ _ _
      | exact LeO.none _
      | refine LeO.ite ?_ ?_
      | refine LeO.bind ?_ (fun _ => ?_)
def laws_FnNums.T41 : Bool × List (List Nat × List Nat) := (true, [([], []), ([], []), ([0, 1], [0, 1]), ([], []), ([2, 3], [2, 3]), ([4, 2], [4]), ([5], [5]), ([5], [5]), ([6, 7, 5, 5], [5, 6, 7]), ([5], [5]), ([5], [5]), ([9, 10, 5], [5, 9, 10]), ([5], [5]), ([11, 12, 5], [5, 11, 12]), ([8, 13, 5], [5, 8, 13]), ([5, 14], [5, 14]), ([15, 8], [15]), ([16], [16]), ([16], [16]), ([17, 18, 16, 16], [16, 17, 18]), ([16], [16]), ([16], [16]), ([20, 21, 16], [16, 20, 21]), ([19, 22, 16], [16, 19, 22]), ([16, 23], [16, 23]), ([24, 19], [24]), ([25], [25]), ([26, 25], [25, 26]), ([25], [25]), ([25], [25]), ([28, 29, 25], [25, 28, 29]), ([27, 30, 25], [25, 27, 30]), ([25, 31], [25, 31])])
def laws_FnNums.B41 : List Nat := [0, 0, 3, 0, 15, 31, 63, 63, 255, 63, 63, 1599, 63, 7743, 16383, 32767, 65535, 131071, 131071, 524287, 131071, 131071, 3276799, 8388607, 16777215, 33554431, 67108863, 134217727, 67108863, 67108863, 872415231, 2147483647, 4294967295]
theorem laws_FnNums.tab41 : rtab .any (opsOf Try.f3 41) = laws_FnNums.T41 := by kernel_rfl
theorem laws_FnNums.bits41 : waitsOk laws_FnNums.T41.2 laws_FnNums.B41 = true := by kernel_rfl
set_option maxHeartbeats 8000000 in
set_option maxRecDepth 100000 in
theorem laws_FnNums.calls (k : Nat) (A0 : Option Addr) (c0 : Nat) (l0 : List Int) (r : Bool) (w : World) (hr0 : Kd.C (Kd.int .u8) w A0 l0.length l0) (hc0 : l0.length ≤ c0) (h : laws_FnNums.f k l0 = some r) (hT_ : r = true := by rfl) :
    Calls Try.prog 3 #[.slice A0 l0.length c0] w fun e w' => e = .returned (.bool r) ∧ Below w.heap.size w w' := by
  have HT_ := Aside0.mk hT_
  clear hT_
  have HR0 := Aside0.mk hr0
  have HC0 := Aside0.mk hc0
  clear hr0 hc0
  have HB := Aside0.mk (Below.refl w.heap.size w)
  have H : ((laws_big.f l0).bind fun t236 => (if t236 = true then (some true) else ((spec_DrawNumsOf.f k l0).bind fun bt237 => (if 0 ≤ (wrap64 ((l0.length : Int) / 2)) then (if (wrap64 ((l0.length : Int) / 2)) ≤ (l0.length : Int) then ((spec_DrawNumsOf.f k (l0.drop ((wrap64 ((l0.length : Int) / 2)) : Int).toNat)).bind fun bt242 => ((spec_NumsOf.f k bt237.1 bt237.2).bind fun t246 => (if (t246.length : Int) = bt237.2 then (if (bt242.1.length : Int) > 64 then (laws_FnNums.j0 k bt237.1 bt237.2 bt242.1 true) else (if bt237.2 < 0 then (laws_FnNums.j0 k bt237.1 bt237.2 bt242.1 true) else (if bt237.2 > 16 then (laws_FnNums.j0 k bt237.1 bt237.2 bt242.1 true) else (laws_FnNums.j0 k bt237.1 bt237.2 bt242.1 (decide ((bt237.1.length : Int) > 64)))))) else (laws_FnNums.j0 k bt237.1 bt237.2 bt242.1 true)))) else (none)) else (none))))) = some r := h
  clear h
  replace H := Option.bind_eq_some_iff.mp H
  obtain ⟨t236, A20, H⟩ := H
  replace H : (if t236 = true then (some true) else ((spec_DrawNumsOf.f k l0).bind fun bt237 => (if 0 ≤ (wrap64 ((l0.length : Int) / 2)) then (if (wrap64 ((l0.length : Int) / 2)) ≤ (l0.length : Int) then ((spec_DrawNumsOf.f k (l0.drop ((wrap64 ((l0.length : Int) / 2)) : Int).toNat)).bind fun bt242 => ((spec_NumsOf.f k bt237.1 bt237.2).bind fun t246 => (if (t246.length : Int) = bt237.2 then (if (bt242.1.length : Int) > 64 then (laws_FnNums.j0 k bt237.1 bt237.2 bt242.1 true) else (if bt237.2 < 0 then (laws_FnNums.j0 k bt237.1 bt237.2 bt242.1 true) else (if bt237.2 > 16 then (laws_FnNums.j0 k bt237.1 bt237.2 bt242.1 true) else (laws_FnNums.j0 k bt237.1 bt237.2 bt242.1 (decide ((bt237.1.length : Int) > 64)))))) else (laws_FnNums.j0 k bt237.1 bt237.2 bt242.1 true)))) else (none)) else (none)))) = some r := H
  have A2 := Aside0.mk A20
  clear A20
  by_cases c3 : t236 = true
  · subst c3
    have H1 : (some true) = some r := by rw [if_pos rfl] at H; exact H
    clear H
    have H := H1
    clear H1
    obtain rfl := Option.some.inj H
    go_enter Try.func3, Try.ntmps3
    go_wp2_with (first | ((with_reducible refine gate_callee (f := 9) rfl ?_); refine goesL_ (some 23) rfl rfl Try.func9 (by kernel_rfl) rfl #[.slice A0 l0.length c0] rfl (by (try simp only [List.map_toArray, List.map_cons, List.map_nil]); first | done | rfl | (simp only [List.length_drop, List.length_take]; rfl)) ?_; (with_reducible refine (laws_big.calls _ _ l0 true _ ?side1 ?side2 A2.out).mono ?_); (case side1 => repeat (first | exact HR0.out | (with_reducible refine Kd.C_alloc ?_ _) | (with_reducible refine Kd.C_drewN ?_ _) | (with_reducible refine Kd.C_drew ?_))); (case side2 => exact HC0.out); rintro e w' ⟨rfl, ⟨nd, rfl⟩⟩; refine ⟨_, rfl, ?_⟩))
    go_ret
    exact ⟨by first | rfl | (simp [errW_none, errW_some] <;> rfl) | (simp [*, errW_none, errW_some] <;> rfl), by repeat (first | (with_reducible first | exact HB.out | apply below_alloc | apply pw_below_drewN | apply below_drew1) | exact HB.out)⟩
  · replace c3 := Bool.eq_false_iff.mpr c3
    subst c3
    have H1 : ((spec_DrawNumsOf.f k l0).bind fun bt237 => (if 0 ≤ (wrap64 ((l0.length : Int) / 2)) then (if (wrap64 ((l0.length : Int) / 2)) ≤ (l0.length : Int) then ((spec_DrawNumsOf.f k (l0.drop ((wrap64 ((l0.length : Int) / 2)) : Int).toNat)).bind fun bt242 => ((spec_NumsOf.f k bt237.1 bt237.2).bind fun t246 => (if (t246.length : Int) = bt237.2 then (if (bt242.1.length : Int) > 64 then (laws_FnNums.j0 k bt237.1 bt237.2 bt242.1 true) else (if bt237.2 < 0 then (laws_FnNums.j0 k bt237.1 bt237.2 bt242.1 true) else (if bt237.2 > 16 then (laws_FnNums.j0 k bt237.1 bt237.2 bt242.1 true) else (laws_FnNums.j0 k bt237.1 bt237.2 bt242.1 (decide ((bt237.1.length : Int) > 64)))))) else (laws_FnNums.j0 k bt237.1 bt237.2 bt242.1 true)))) else (none)) else (none))) = some r := by rw [if_neg (show ¬ (false = true) by decide)] at H; exact H
    clear H
    have H := H1
    clear H1
    replace H := Option.bind_eq_some_iff.mp H
    obtain ⟨⟨t237, t238⟩, A40, H⟩ := H
    replace H : (if 0 ≤ (wrap64 ((l0.length : Int) / 2)) then (if (wrap64 ((l0.length : Int) / 2)) ≤ (l0.length : Int) then ((spec_DrawNumsOf.f k (l0.drop ((wrap64 ((l0.length : Int) / 2)) : Int).toNat)).bind fun bt242 => ((spec_NumsOf.f k t237 t238).bind fun t246 => (if (t246.length : Int) = t238 then (if (bt242.1.length : Int) > 64 then (laws_FnNums.j0 k t237 t238 bt242.1 true) else (if t238 < 0 then (laws_FnNums.j0 k t237 t238 bt242.1 true) else (if t238 > 16 then (laws_FnNums.j0 k t237 t238 bt242.1 true) else (laws_FnNums.j0 k t237 t238 bt242.1 (decide ((t237.length : Int) > 64)))))) else (laws_FnNums.j0 k t237 t238 bt242.1 true)))) else (none)) else (none)) = some r := H
    have A4 := Aside0.mk A40
    clear A40
    obtain ⟨ji5, hji5⟩ : ∃ j_ : Int, (wrap64 ((l0.length : Int) / 2)) = j_ := ⟨_, rfl⟩
    replace H : (if 0 ≤ (ji5) then (if (ji5) ≤ (l0.length : Int) then ((spec_DrawNumsOf.f k (l0.drop ((ji5) : Int).toNat)).bind fun bt242 => ((spec_NumsOf.f k t237 t238).bind fun t246 => (if (t246.length : Int) = t238 then (if (bt242.1.length : Int) > 64 then (laws_FnNums.j0 k t237 t238 bt242.1 true) else (if t238 < 0 then (laws_FnNums.j0 k t237 t238 bt242.1 true) else (if t238 > 16 then (laws_FnNums.j0 k t237 t238 bt242.1 true) else (laws_FnNums.j0 k t237 t238 bt242.1 (decide ((t237.length : Int) > 64)))))) else (laws_FnNums.j0 k t237 t238 bt242.1 true)))) else (none)) else (none)) = some r := by first | (rw [hji5] at H; exact H) | (simp only [hji5] at H ⊢; exact H)
    (try rw [hji5] at A2)
    (try rw [hji5] at A4)
    have hji5w : (IntKind.i64.wrap ((l0.length : Int) / 2)) = ji5 := (i64_w _).trans hji5
    by_cases c6 : 0 ≤ (ji5)
    · rw [if_pos c6] at H
      have c6b0 := eq_true c6
      have c6b1 : decide (0 ≤ (ji5)) = true := decide_eq_true c6
      clear c6
      by_cases c7 : (ji5) ≤ (l0.length : Int)
      · rw [if_pos c7] at H
        have c7b0 := eq_true c7
        have c7b1 : decide ((ji5) ≤ (l0.length : Int)) = true := decide_eq_true c7
        clear c7
        replace H := Option.bind_eq_some_iff.mp H
        obtain ⟨⟨t242, t243⟩, A80, H⟩ := H
        replace H : ((spec_NumsOf.f k t237 t238).bind fun t246 => (if (t246.length : Int) = t238 then (if (t242.length : Int) > 64 then (laws_FnNums.j0 k t237 t238 t242 true) else (if t238 < 0 then (laws_FnNums.j0 k t237 t238 t242 true) else (if t238 > 16 then (laws_FnNums.j0 k t237 t238 t242 true) else (laws_FnNums.j0 k t237 t238 t242 (decide ((t237.length : Int) > 64)))))) else (laws_FnNums.j0 k t237 t238 t242 true))) = some r := H
        have A8 := Aside0.mk A80
        clear A80
        have HC9 := Aside0.mk H
        clear H
        go_enter Try.func3, Try.ntmps3
        go_upto_region 5 with (first | ((with_reducible refine gate_callee (f := 9) rfl ?_); refine goesL_ (some 23) rfl rfl Try.func9 (by kernel_rfl) rfl #[.slice A0 l0.length c0] rfl (by (try simp only [List.map_toArray, List.map_cons, List.map_nil]); first | done | rfl | (simp only [List.length_drop, List.length_take]; rfl)) ?_; (with_reducible refine (laws_big.calls _ _ l0 false _ ?side1 ?side2 A2.out).mono ?_); (case side1 => repeat (first | exact HR0.out | (with_reducible refine Kd.C_alloc ?_ _) | (with_reducible refine Kd.C_drewN ?_ _) | (with_reducible refine Kd.C_drew ?_))); (case side2 => exact HC0.out); rintro e w' ⟨rfl, ⟨nd, rfl⟩⟩; refine ⟨_, rfl, ?_⟩) | ((with_reducible refine gate_callee (f := 10) rfl ?_); refine goesL_ (some 26) rfl rfl Try.func10 (by kernel_rfl) rfl #[.slice A0 l0.length c0] rfl (by (try simp only [List.map_toArray, List.map_cons, List.map_nil]); first | done | rfl | (simp only [List.length_drop, List.length_take]; rfl)) ?_; (with_reducible refine (spec_DrawNumsOf.calls k _ _ l0 t237 t238 _ ?side1 ?side2 A4.out).mono ?_); (case side1 => repeat (first | exact HR0.out | (with_reducible refine Kd.C_alloc ?_ _) | (with_reducible refine Kd.C_drewN ?_ _) | (with_reducible refine Kd.C_drew ?_))); (case side2 => exact HC0.out); rintro e w10 ⟨v239, rfl, ho0, hb⟩; refine ⟨_, rfl, ?_⟩; have n0_ := Aside0.mk (Kd.R_lower ho0 (below_size (by repeat (first | (with_reducible first | exact HB.out | apply below_alloc | apply pw_below_drewN | apply below_drew1) | exact HB.out)))); have n1_ := Aside0.mk (below_step (by repeat (first | (with_reducible first | exact HB.out | apply below_alloc | apply pw_below_drewN | apply below_drew1) | exact HB.out)) hb); clear HB; have HO240 := n0_; have HB := n1_; clear n0_ n1_; (try clear hb); (try clear hb2); (try clear hk); (try clear hi); (try clear ho0); obtain ⟨i011, hi011, _, hsz11, _⟩ := info_parts info5; obtain ⟨A11, hcut11, hA11, hC11⟩ := print_drop_of (P := Try.prog) (Value.int .u8) 0 22 5 .i64 Try.underlying22 hi011 hsz11 A0 c0 l0 (ji5) (of_decide_eq_true (by first | (with_reducible assumption) | assumption)) (of_decide_eq_true (by first | (with_reducible assumption) | assumption)) HC0.out; have HR241 := Aside0.mk (Kd.C_of_reads (h1 := fun _ => rfl) (hA11 _ (Kd.reads_of_C HR0.out))); have HC241 := Aside0.mk hC11; clear hA11 hC11 hi011 hsz11) | ((with_reducible refine gate_callee (f := 10) rfl ?_); refine goesL_ (some 35) rfl rfl Try.func10 (by kernel_rfl) rfl #[.slice A11 (l0.drop ((ji5) : Int).toNat).length (c0 - (ji5).toNat)] rfl (by (try simp only [List.map_toArray, List.map_cons, List.map_nil]); first | done | (rw [show (l0.drop ((ji5) : Int).toNat).length = (l0.length - (ji5).toNat) from List.length_drop] <;> rfl) | (simp only [hji5]; rfl) | rfl | (simp only [List.length_drop, List.length_take]; rfl)) ?_; (with_reducible refine (spec_DrawNumsOf.calls k _ _ (l0.drop ((ji5) : Int).toNat) t242 t243 _ ?side1 ?side2 A8.out).mono ?_); (case side1 => repeat (first | exact (Kd.C_below HR241.out HB.out) | (with_reducible refine Kd.C_alloc ?_ _) | (with_reducible refine Kd.C_drewN ?_ _) | (with_reducible refine Kd.C_drew ?_))); (case side2 => exact HC241.out); rintro e w12 ⟨v244, rfl, ho0, hb⟩; refine ⟨_, rfl, ?_⟩; have n0_ := Aside0.mk (Kd.R_elder' (by (with_reducible repeat (first | apply Kd.R_alloc | apply Kd.R_drewN | apply Kd.R_drew)); exact HO240.out) (Kd.R_base ho0) hb); have n1_ := Aside0.mk (Kd.R_lower (Kd.R_new' ho0 (Kd.R_lt (by (with_reducible repeat (first | apply Kd.R_alloc | apply Kd.R_drewN | apply Kd.R_drew)); exact HO240.out))) (below_size (by repeat (first | (with_reducible first | exact HB.out | apply below_alloc | apply pw_below_drewN | apply below_drew1) | exact HB.out)))); have n2_ := Aside0.mk (below_step (by repeat (first | (with_reducible first | exact HB.out | apply below_alloc | apply pw_below_drewN | apply below_drew1) | exact HB.out)) hb); clear HO240; clear HB; have HO240 := n0_; have HO245 := n1_; have HB := n2_; clear n0_ n1_ n2_; (try clear hb); (try clear hb2); (try clear hk); (try clear hi); (try clear ho0)))
        (try simp only [Act.put, List.setIfInBounds_toArray, List.set_cons_zero, List.set_cons_succ])
        go_cut [61] (fun v61 wc => ∃ (kq : Nat) (x61_8 : Bool), v61 = .bool x61_8 ∧ Aside0 (laws_FnNums.j0 kq t237 t238 t242 x61_8 = some r) ∧ Aside0 (kq ≤ k) ∧ Aside0 (Kd.R (Kd.int .i64) 3 wc w.heap.size (fun k_ => some k_ ≠ (v244 : Value).ownBlock) v239 t237) ∧ Aside0 (Kd.R (Kd.int .i64) 3 wc w.heap.size (fun k_ => some k_ ≠ (v239 : Value).ownBlock) v244 t242) ∧ Aside0 (Below w.heap.size w wc))
        case first =>
          have H := HC9.out
          clear HC9
          replace H := Option.bind_eq_some_iff.mp H
          obtain ⟨t246, A130, H⟩ := H
          replace H : (if (t246.length : Int) = t238 then (if (t242.length : Int) > 64 then (laws_FnNums.j0 k t237 t238 t242 true) else (if t238 < 0 then (laws_FnNums.j0 k t237 t238 t242 true) else (if t238 > 16 then (laws_FnNums.j0 k t237 t238 t242 true) else (laws_FnNums.j0 k t237 t238 t242 (decide ((t237.length : Int) > 64)))))) else (laws_FnNums.j0 k t237 t238 t242 true)) = some r := H
          have A13 := Aside0.mk A130
          clear A130
          by_cases c14 : (t246.length : Int) = t238
          · rw [if_pos c14] at H
            have c14b0 : ((t246.length : Int) == t238) = true := beq_iff_eq.mpr c14
            have c14b1 : ((t246.length : Int) != t238) = false := bne_eq_false_iff_eq.mpr c14
            clear c14
            (first | rw [c14b0] | (simp only [i64_w, i32_w]; rw [c14b0]) | skip)
            by_cases c15 : (t242.length : Int) > 64
            · rw [if_pos c15] at H
              have c15b0 : decide (64 < (t242.length : Int)) = true := decide_eq_true c15
              have c15b1 : decide (64 < t242.length) = true := decide_eq_true (by omega)
              clear c15
              have H' := Aside0.mk H
              clear H
              obtain ⟨Ao16, co16, eo16⟩ := Kd.R_slice HO240.out
              subst eo16
              go_wp2_with (first | ((with_reducible refine gate_callee (f := 11) rfl ?_); refine goesL_ (some 40) rfl rfl Try.func11 (by kernel_rfl) rfl #[.slice Ao16 t237.length co16, .int .i64 t238] rfl (by (try simp only [List.map_toArray, List.map_cons, List.map_nil]); first | done | rfl | (simp only [List.length_drop, List.length_take]; rfl)) ?_; (with_reducible refine (spec_NumsOf.calls k _ _ t237 t238 t246 _ ?side1 ?side2 A13.out).mono ?_); (case side1 => repeat (first | exact (Kd.R_reads' HO240.out).2.2 | (with_reducible refine Kd.C_alloc ?_ _) | (with_reducible refine Kd.C_drewN ?_ _) | (with_reducible refine Kd.C_drew ?_))); (case side2 => exact (Kd.R_reads' HO240.out).2.1); rintro e w17 ⟨v247, rfl, ho0, hb⟩; refine ⟨_, rfl, ?_⟩; have n0_ := Aside0.mk (Kd.R_below (by (with_reducible repeat (first | apply Kd.R_alloc | apply Kd.R_drewN | apply Kd.R_drew)); exact HO240.out) hb); have n1_ := Aside0.mk (Kd.R_below (by (with_reducible repeat (first | apply Kd.R_alloc | apply Kd.R_drewN | apply Kd.R_drew)); exact HO245.out) hb); have n2_ := Aside0.mk (Kd.R_lower ho0 (below_size (by repeat (first | (with_reducible first | exact HB.out | apply below_alloc | apply pw_below_drewN | apply below_drew1) | exact HB.out)))); have n3_ := Aside0.mk (below_step (by repeat (first | (with_reducible first | exact HB.out | apply below_alloc | apply pw_below_drewN | apply below_drew1) | exact HB.out)) hb); clear HO240; clear HO245; clear HB; have HO240 := n0_; have HO245 := n1_; have HO248 := n2_; have HB := n3_; clear n0_ n1_ n2_ n3_; (try clear hb); (try clear hb2); (try clear hk); (try clear hi); (try clear ho0); obtain ⟨Ao18, co18, eo18⟩ := Kd.R_slice HO248.out; subst eo18; obtain ⟨Ao19, co19, eo19⟩ := Kd.R_slice HO245.out; subst eo19))
              go_meet
              case rel => exact ⟨_, (true), (by first | rfl | (simp; done) | (simp [*]; done)), H', ⟨by first | omega | exact Nat.le_refl _⟩, ⟨by (with_reducible repeat (first | apply Kd.R_alloc | apply Kd.R_drewN | apply Kd.R_drew)); exact Kd.R_mono HO240.out (fun _ hk => by first | exact hk.2 | trivial)⟩, ⟨by (with_reducible repeat (first | apply Kd.R_alloc | apply Kd.R_drewN | apply Kd.R_drew)); exact Kd.R_mono HO245.out (fun _ hk => by first | exact hk.2 | trivial)⟩, ⟨by repeat (first | (with_reducible first | exact HB.out | apply below_alloc | apply pw_below_drewN | apply below_drew1) | exact HB.out)⟩⟩
            · rw [if_neg c15] at H
              have c15b0 : decide (64 < (t242.length : Int)) = false := decide_eq_false c15
              have c15b1 : decide (64 < t242.length) = false := decide_eq_false (by omega)
              clear c15
              by_cases c20 : t238 < 0
              · rw [if_pos c20] at H
                have c20b0 : decide (t238 < 0) = true := decide_eq_true c20
                clear c20
                have H' := Aside0.mk H
                clear H
                obtain ⟨Ao21, co21, eo21⟩ := Kd.R_slice HO240.out
                subst eo21
                go_wp2_with (first | ((with_reducible refine gate_callee (f := 11) rfl ?_); refine goesL_ (some 40) rfl rfl Try.func11 (by kernel_rfl) rfl #[.slice Ao21 t237.length co21, .int .i64 t238] rfl (by (try simp only [List.map_toArray, List.map_cons, List.map_nil]); first | done | rfl | (simp only [List.length_drop, List.length_take]; rfl)) ?_; (with_reducible refine (spec_NumsOf.calls k _ _ t237 t238 t246 _ ?side1 ?side2 A13.out).mono ?_); (case side1 => repeat (first | exact (Kd.R_reads' HO240.out).2.2 | (with_reducible refine Kd.C_alloc ?_ _) | (with_reducible refine Kd.C_drewN ?_ _) | (with_reducible refine Kd.C_drew ?_))); (case side2 => exact (Kd.R_reads' HO240.out).2.1); rintro e w22 ⟨v247, rfl, ho0, hb⟩; refine ⟨_, rfl, ?_⟩; have n0_ := Aside0.mk (Kd.R_below (by (with_reducible repeat (first | apply Kd.R_alloc | apply Kd.R_drewN | apply Kd.R_drew)); exact HO240.out) hb); have n1_ := Aside0.mk (Kd.R_below (by (with_reducible repeat (first | apply Kd.R_alloc | apply Kd.R_drewN | apply Kd.R_drew)); exact HO245.out) hb); have n2_ := Aside0.mk (Kd.R_lower ho0 (below_size (by repeat (first | (with_reducible first | exact HB.out | apply below_alloc | apply pw_below_drewN | apply below_drew1) | exact HB.out)))); have n3_ := Aside0.mk (below_step (by repeat (first | (with_reducible first | exact HB.out | apply below_alloc | apply pw_below_drewN | apply below_drew1) | exact HB.out)) hb); clear HO240; clear HO245; clear HB; have HO240 := n0_; have HO245 := n1_; have HO248 := n2_; have HB := n3_; clear n0_ n1_ n2_ n3_; (try clear hb); (try clear hb2); (try clear hk); (try clear hi); (try clear ho0); obtain ⟨Ao23, co23, eo23⟩ := Kd.R_slice HO248.out; subst eo23; obtain ⟨Ao24, co24, eo24⟩ := Kd.R_slice HO245.out; subst eo24))
                go_meet
                case rel => exact ⟨_, (true), (by first | rfl | (simp; done) | (simp [*]; done)), H', ⟨by first | omega | exact Nat.le_refl _⟩, ⟨by (with_reducible repeat (first | apply Kd.R_alloc | apply Kd.R_drewN | apply Kd.R_drew)); exact Kd.R_mono HO240.out (fun _ hk => by first | exact hk.2 | trivial)⟩, ⟨by (with_reducible repeat (first | apply Kd.R_alloc | apply Kd.R_drewN | apply Kd.R_drew)); exact Kd.R_mono HO245.out (fun _ hk => by first | exact hk.2 | trivial)⟩, ⟨by repeat (first | (with_reducible first | exact HB.out | apply below_alloc | apply pw_below_drewN | apply below_drew1) | exact HB.out)⟩⟩
              · rw [if_neg c20] at H
                have c20b0 : decide (t238 < 0) = false := decide_eq_false c20
                clear c20
                by_cases c25 : t238 > 16
                · rw [if_pos c25] at H
                  have c25b0 : decide (16 < t238) = true := decide_eq_true c25
                  clear c25
                  have H' := Aside0.mk H
                  clear H
                  obtain ⟨Ao26, co26, eo26⟩ := Kd.R_slice HO240.out
                  subst eo26
                  go_wp2_with (first | ((with_reducible refine gate_callee (f := 11) rfl ?_); refine goesL_ (some 40) rfl rfl Try.func11 (by kernel_rfl) rfl #[.slice Ao26 t237.length co26, .int .i64 t238] rfl (by (try simp only [List.map_toArray, List.map_cons, List.map_nil]); first | done | rfl | (simp only [List.length_drop, List.length_take]; rfl)) ?_; (with_reducible refine (spec_NumsOf.calls k _ _ t237 t238 t246 _ ?side1 ?side2 A13.out).mono ?_); (case side1 => repeat (first | exact (Kd.R_reads' HO240.out).2.2 | (with_reducible refine Kd.C_alloc ?_ _) | (with_reducible refine Kd.C_drewN ?_ _) | (with_reducible refine Kd.C_drew ?_))); (case side2 => exact (Kd.R_reads' HO240.out).2.1); rintro e w27 ⟨v247, rfl, ho0, hb⟩; refine ⟨_, rfl, ?_⟩; have n0_ := Aside0.mk (Kd.R_below (by (with_reducible repeat (first | apply Kd.R_alloc | apply Kd.R_drewN | apply Kd.R_drew)); exact HO240.out) hb); have n1_ := Aside0.mk (Kd.R_below (by (with_reducible repeat (first | apply Kd.R_alloc | apply Kd.R_drewN | apply Kd.R_drew)); exact HO245.out) hb); have n2_ := Aside0.mk (Kd.R_lower ho0 (below_size (by repeat (first | (with_reducible first | exact HB.out | apply below_alloc | apply pw_below_drewN | apply below_drew1) | exact HB.out)))); have n3_ := Aside0.mk (below_step (by repeat (first | (with_reducible first | exact HB.out | apply below_alloc | apply pw_below_drewN | apply below_drew1) | exact HB.out)) hb); clear HO240; clear HO245; clear HB; have HO240 := n0_; have HO245 := n1_; have HO248 := n2_; have HB := n3_; clear n0_ n1_ n2_ n3_; (try clear hb); (try clear hb2); (try clear hk); (try clear hi); (try clear ho0); obtain ⟨Ao28, co28, eo28⟩ := Kd.R_slice HO248.out; subst eo28; obtain ⟨Ao29, co29, eo29⟩ := Kd.R_slice HO245.out; subst eo29))
                  go_meet
                  case rel => exact ⟨_, (true), (by first | rfl | (simp; done) | (simp [*]; done)), H', ⟨by first | omega | exact Nat.le_refl _⟩, ⟨by (with_reducible repeat (first | apply Kd.R_alloc | apply Kd.R_drewN | apply Kd.R_drew)); exact Kd.R_mono HO240.out (fun _ hk => by first | exact hk.2 | trivial)⟩, ⟨by (with_reducible repeat (first | apply Kd.R_alloc | apply Kd.R_drewN | apply Kd.R_drew)); exact Kd.R_mono HO245.out (fun _ hk => by first | exact hk.2 | trivial)⟩, ⟨by repeat (first | (with_reducible first | exact HB.out | apply below_alloc | apply pw_below_drewN | apply below_drew1) | exact HB.out)⟩⟩
                · rw [if_neg c25] at H
                  have c25b0 : decide (16 < t238) = false := decide_eq_false c25
                  clear c25
                  have H' := Aside0.mk H
                  clear H
                  obtain ⟨Ao30, co30, eo30⟩ := Kd.R_slice HO240.out
                  subst eo30
                  go_wp2_with (first | ((with_reducible refine gate_callee (f := 11) rfl ?_); refine goesL_ (some 40) rfl rfl Try.func11 (by kernel_rfl) rfl #[.slice Ao30 t237.length co30, .int .i64 t238] rfl (by (try simp only [List.map_toArray, List.map_cons, List.map_nil]); first | done | rfl | (simp only [List.length_drop, List.length_take]; rfl)) ?_; (with_reducible refine (spec_NumsOf.calls k _ _ t237 t238 t246 _ ?side1 ?side2 A13.out).mono ?_); (case side1 => repeat (first | exact (Kd.R_reads' HO240.out).2.2 | (with_reducible refine Kd.C_alloc ?_ _) | (with_reducible refine Kd.C_drewN ?_ _) | (with_reducible refine Kd.C_drew ?_))); (case side2 => exact (Kd.R_reads' HO240.out).2.1); rintro e w31 ⟨v247, rfl, ho0, hb⟩; refine ⟨_, rfl, ?_⟩; have n0_ := Aside0.mk (Kd.R_below (by (with_reducible repeat (first | apply Kd.R_alloc | apply Kd.R_drewN | apply Kd.R_drew)); exact HO240.out) hb); have n1_ := Aside0.mk (Kd.R_below (by (with_reducible repeat (first | apply Kd.R_alloc | apply Kd.R_drewN | apply Kd.R_drew)); exact HO245.out) hb); have n2_ := Aside0.mk (Kd.R_lower ho0 (below_size (by repeat (first | (with_reducible first | exact HB.out | apply below_alloc | apply pw_below_drewN | apply below_drew1) | exact HB.out)))); have n3_ := Aside0.mk (below_step (by repeat (first | (with_reducible first | exact HB.out | apply below_alloc | apply pw_below_drewN | apply below_drew1) | exact HB.out)) hb); clear HO240; clear HO245; clear HB; have HO240 := n0_; have HO245 := n1_; have HO248 := n2_; have HB := n3_; clear n0_ n1_ n2_ n3_; (try clear hb); (try clear hb2); (try clear hk); (try clear hi); (try clear ho0); obtain ⟨Ao32, co32, eo32⟩ := Kd.R_slice HO248.out; subst eo32; obtain ⟨Ao33, co33, eo33⟩ := Kd.R_slice HO245.out; subst eo33))
                  go_meet
                  case rel => exact ⟨_, (decide ((t237.length : Int) > 64)), (by first | rfl | (simp; done) | (simp [*]; done)), H', ⟨by first | omega | exact Nat.le_refl _⟩, ⟨by (with_reducible repeat (first | apply Kd.R_alloc | apply Kd.R_drewN | apply Kd.R_drew)); exact Kd.R_mono HO240.out (fun _ hk => by first | exact hk.2 | trivial)⟩, ⟨by (with_reducible repeat (first | apply Kd.R_alloc | apply Kd.R_drewN | apply Kd.R_drew)); exact Kd.R_mono HO245.out (fun _ hk => by first | exact hk.2 | trivial)⟩, ⟨by repeat (first | (with_reducible first | exact HB.out | apply below_alloc | apply pw_below_drewN | apply below_drew1) | exact HB.out)⟩⟩
          · rw [if_neg c14] at H
            have c14b0 : ((t246.length : Int) == t238) = false := beq_eq_false_iff_ne.mpr c14
            have c14b1 : ((t246.length : Int) != t238) = true := bne_iff_ne.mpr c14
            (first | rw [c14b0] | (simp only [i64_w, i32_w]; rw [c14b0]) | skip)
            have H' := Aside0.mk H
            clear H
            obtain ⟨Ao34, co34, eo34⟩ := Kd.R_slice HO240.out
            subst eo34
            go_wp2_with (first | ((with_reducible refine gate_callee (f := 11) rfl ?_); refine goesL_ (some 40) rfl rfl Try.func11 (by kernel_rfl) rfl #[.slice Ao34 t237.length co34, .int .i64 t238] rfl (by (try simp only [List.map_toArray, List.map_cons, List.map_nil]); first | done | rfl | (simp only [List.length_drop, List.length_take]; rfl)) ?_; (with_reducible refine (spec_NumsOf.calls k _ _ t237 t238 t246 _ ?side1 ?side2 A13.out).mono ?_); (case side1 => repeat (first | exact (Kd.R_reads' HO240.out).2.2 | (with_reducible refine Kd.C_alloc ?_ _) | (with_reducible refine Kd.C_drewN ?_ _) | (with_reducible refine Kd.C_drew ?_))); (case side2 => exact (Kd.R_reads' HO240.out).2.1); rintro e w35 ⟨v247, rfl, ho0, hb⟩; refine ⟨_, rfl, ?_⟩; have n0_ := Aside0.mk (Kd.R_below (by (with_reducible repeat (first | apply Kd.R_alloc | apply Kd.R_drewN | apply Kd.R_drew)); exact HO240.out) hb); have n1_ := Aside0.mk (Kd.R_below (by (with_reducible repeat (first | apply Kd.R_alloc | apply Kd.R_drewN | apply Kd.R_drew)); exact HO245.out) hb); have n2_ := Aside0.mk (Kd.R_lower ho0 (below_size (by repeat (first | (with_reducible first | exact HB.out | apply below_alloc | apply pw_below_drewN | apply below_drew1) | exact HB.out)))); have n3_ := Aside0.mk (below_step (by repeat (first | (with_reducible first | exact HB.out | apply below_alloc | apply pw_below_drewN | apply below_drew1) | exact HB.out)) hb); clear HO240; clear HO245; clear HB; have HO240 := n0_; have HO245 := n1_; have HO248 := n2_; have HB := n3_; clear n0_ n1_ n2_ n3_; (try clear hb); (try clear hb2); (try clear hk); (try clear hi); (try clear ho0); obtain ⟨Ao36, co36, eo36⟩ := Kd.R_slice HO248.out; subst eo36))
            go_meet
            case rel => exact ⟨_, (true), (by first | rfl | (simp; done) | (simp [*]; done)), H', ⟨by first | omega | exact Nat.le_refl _⟩, ⟨by (with_reducible repeat (first | apply Kd.R_alloc | apply Kd.R_drewN | apply Kd.R_drew)); exact Kd.R_mono HO240.out (fun _ hk => by first | exact hk.2 | trivial)⟩, ⟨by (with_reducible repeat (first | apply Kd.R_alloc | apply Kd.R_drewN | apply Kd.R_drew)); exact Kd.R_mono HO245.out (fun _ hk => by first | exact hk.2 | trivial)⟩, ⟨by repeat (first | (with_reducible first | exact HB.out | apply below_alloc | apply pw_below_drewN | apply below_drew1) | exact HB.out)⟩⟩
        case rest =>
          clear HC9
          try clear c1
          try clear c2
          try clear p2
          try clear c3
          try clear c6
          try clear c6b0
          try clear c6b1
          try clear p6
          try clear c7
          try clear c7b0
          try clear c7b1
          try clear c9
          try clear c10
          try clear c11
          try clear c14
          try clear c14b0
          try clear c14b1
          try clear c15
          try clear c15b0
          try clear c15b1
          try clear c20
          try clear c20b0
          try clear c25
          try clear c25b0
          obtain ⟨kq, x61_8, rfl, HA, HJ8, HO_3, HO_5, HB⟩ := hcut
          cases kq with
          | zero => exact absurd HA.out (by simp [laws_FnNums.j0])
          | succ kj8 =>
            have H := HA.out
            clear HA
            simp only [laws_FnNums.j0] at H
            by_cases c37 : x61_8 = true
            · subst c37
              have H1 : ((impl_NumsOf.f kj8 t237 t238).bind fun t249 => ((spec_NumsOf.f kj8 t237 t238).bind fun t252 => (some ((t249.length : Int) == (t252.length : Int))))) = some r := by rw [if_pos rfl] at H; exact H
              clear H
              have H := H1
              clear H1
              replace H := Option.bind_eq_some_iff.mp H
              obtain ⟨t249, A380, H⟩ := H
              replace H : ((spec_NumsOf.f kj8 t237 t238).bind fun t252 => (some ((t249.length : Int) == (t252.length : Int)))) = some r := H
              have A38 := Aside0.mk A380
              clear A380
              replace H := Option.bind_eq_some_iff.mp H
              obtain ⟨t252, A390, H⟩ := H
              replace H : (some ((t249.length : Int) == (t252.length : Int))) = some r := H
              have A39 := Aside0.mk A390
              clear A390
              obtain rfl := Option.some.inj H
              obtain ⟨Ao40, co40, eo40⟩ := Kd.R_slice HO_3.out
              subst eo40
              go_wp2_with (first | ((with_reducible refine gate_callee (f := 12) rfl ?_); refine goesL_ (some 64) rfl rfl Try.func12 (by kernel_rfl) rfl #[.slice Ao40 t237.length co40, .int .i64 t238] rfl (by (try simp only [List.map_toArray, List.map_cons, List.map_nil]); first | done | rfl | (simp only [List.length_drop, List.length_take]; rfl)) ?_; (with_reducible refine (impl_NumsOf.calls kj8 _ _ t237 t238 t249 _ ?side1 ?side2 A38.out).mono ?_); (case side1 => repeat (first | exact (Kd.R_reads' HO_3.out).2.2 | (with_reducible refine Kd.C_alloc ?_ _) | (with_reducible refine Kd.C_drewN ?_ _) | (with_reducible refine Kd.C_drew ?_))); (case side2 => exact (Kd.R_reads' HO_3.out).2.1); rintro e w41 ⟨v250, rfl, ho0, hb⟩; refine ⟨_, rfl, ?_⟩; have n0_ := Aside0.mk (Kd.R_below (by (with_reducible repeat (first | apply Kd.R_alloc | apply Kd.R_drewN | apply Kd.R_drew)); exact HO_3.out) hb); have n1_ := Aside0.mk (Kd.R_below (by (with_reducible repeat (first | apply Kd.R_alloc | apply Kd.R_drewN | apply Kd.R_drew)); exact HO_5.out) hb); have n2_ := Aside0.mk (Kd.R_lower ho0 (below_size (by repeat (first | (with_reducible first | exact HB.out | apply below_alloc | apply pw_below_drewN | apply below_drew1) | exact HB.out)))); have n3_ := Aside0.mk (below_step (by repeat (first | (with_reducible first | exact HB.out | apply below_alloc | apply pw_below_drewN | apply below_drew1) | exact HB.out)) hb); clear HO_3; clear HO_5; clear HB; have HO_3 := n0_; have HO_5 := n1_; have HO251 := n2_; have HB := n3_; clear n0_ n1_ n2_ n3_; (try clear hb); (try clear hb2); (try clear hk); (try clear hi); (try clear ho0); obtain ⟨Ao42, co42, eo42⟩ := Kd.R_slice HO251.out; subst eo42) | ((with_reducible refine gate_callee (f := 11) rfl ?_); refine goesL_ (some 68) rfl rfl Try.func11 (by kernel_rfl) rfl #[.slice Ao40 t237.length co40, .int .i64 t238] rfl (by (try simp only [List.map_toArray, List.map_cons, List.map_nil]); first | done | rfl | (simp only [List.length_drop, List.length_take]; rfl)) ?_; (with_reducible refine (spec_NumsOf.calls kj8 _ _ t237 t238 t252 _ ?side1 ?side2 A39.out).mono ?_); (case side1 => repeat (first | exact (Kd.R_reads' HO_3.out).2.2 | (with_reducible refine Kd.C_alloc ?_ _) | (with_reducible refine Kd.C_drewN ?_ _) | (with_reducible refine Kd.C_drew ?_))); (case side2 => exact (Kd.R_reads' HO_3.out).2.1); rintro e w43 ⟨v253, rfl, ho0, hb⟩; refine ⟨_, rfl, ?_⟩; have n0_ := Aside0.mk (Kd.R_below (by (with_reducible repeat (first | apply Kd.R_alloc | apply Kd.R_drewN | apply Kd.R_drew)); exact HO_3.out) hb); have n1_ := Aside0.mk (Kd.R_below (by (with_reducible repeat (first | apply Kd.R_alloc | apply Kd.R_drewN | apply Kd.R_drew)); exact HO_5.out) hb); have n2_ := Aside0.mk (Kd.R_elder' (by (with_reducible repeat (first | apply Kd.R_alloc | apply Kd.R_drewN | apply Kd.R_drew)); exact HO251.out) (Kd.R_base ho0) hb); have n3_ := Aside0.mk (Kd.R_lower (Kd.R_new' ho0 (Kd.R_lt (by (with_reducible repeat (first | apply Kd.R_alloc | apply Kd.R_drewN | apply Kd.R_drew)); exact HO251.out))) (below_size (by repeat (first | (with_reducible first | exact HB.out | apply below_alloc | apply pw_below_drewN | apply below_drew1) | exact HB.out)))); have n4_ := Aside0.mk (below_step (by repeat (first | (with_reducible first | exact HB.out | apply below_alloc | apply pw_below_drewN | apply below_drew1) | exact HB.out)) hb); clear HO_3; clear HO_5; clear HO251; clear HB; have HO_3 := n0_; have HO_5 := n1_; have HO251 := n2_; have HO254 := n3_; have HB := n4_; clear n0_ n1_ n2_ n3_ n4_; (try clear hb); (try clear hb2); (try clear hk); (try clear hi); (try clear ho0); obtain ⟨Ao44, co44, eo44⟩ := Kd.R_slice HO254.out; subst eo44))
              go_ret
              exact ⟨by first | rfl | (simp [errW_none, errW_some] <;> rfl) | (simp only [← hji5]; first | rfl | (simp [errW_none, errW_some] <;> rfl)) | (simp [*, errW_none, errW_some] <;> rfl), by repeat (first | (with_reducible first | exact HB.out | apply below_alloc | apply pw_below_drewN | apply below_drew1) | exact HB.out)⟩
            · replace c37 := Bool.eq_false_iff.mpr c37
              subst c37
              have H1 : (laws_FnNums.l0 kj8 t237 t238 t242 1 0) = some r := by rw [if_neg (show ¬ (false = true) by decide)] at H; exact H
              clear H
              have H := H1
              clear H1
              have H' := Aside0.mk H
              clear H
              go_wp2
              go_loopg [7, 8] kj8 (fun kq v7 v8 w' => ∃ (x7_2 : Int) (x8_2 : Int), v7 = .int .i64 x7_2 ∧ v8 = .int .i64 x8_2 ∧ Aside0 (laws_FnNums.l0 kq t237 t238 t242 x7_2 x8_2 = some r) ∧ Aside0 (kq ≤ kj8) ∧ Aside0 (Kd.R (Kd.int .i64) 3 w' w.heap.size (fun k_ => some k_ ≠ (v244 : Value).ownBlock) v239 t237) ∧ Aside0 (Kd.R (Kd.int .i64) 3 w' w.heap.size (fun k_ => some k_ ≠ (v239 : Value).ownBlock) v244 t242) ∧ Aside0 (Below w.heap.size w w'))
              case atStart => exact ⟨(1), (0), (by first | rfl | (simp; done) | (simp [*]; done)), (by first | rfl | (simp; done) | (simp [*]; done)), H', ⟨Nat.le_refl _⟩, ⟨by (with_reducible repeat (first | apply Kd.R_alloc | apply Kd.R_drewN | apply Kd.R_drew)); exact HO_3.out⟩, ⟨by (with_reducible repeat (first | apply Kd.R_alloc | apply Kd.R_drewN | apply Kd.R_drew)); exact HO_5.out⟩, ⟨by repeat (first | (with_reducible first | exact HB.out | apply below_alloc | apply pw_below_drewN | apply below_drew1) | exact HB.out)⟩⟩
              case round =>
                clear H'
                try clear c1
                try clear c2
                try clear p2
                try clear c3
                try clear c6
                try clear c6b0
                try clear c6b1
                try clear p6
                try clear c7
                try clear c7b0
                try clear c7b1
                try clear c9
                try clear c10
                try clear c11
                try clear c12
                try clear c14
                try clear c14b0
                try clear c14b1
                try clear c15
                try clear c15b0
                try clear c15b1
                try clear c20
                try clear c20b0
                try clear c25
                try clear c25b0
                try clear c37
                try clear p2
                try clear p6
                obtain ⟨x7_2, x8_2, rfl, rfl, HA, HK2, HO_3, HO_5, HB⟩ := hrel
                cases gk with
                | zero => exact absurd HA.out (by simp [laws_FnNums.l0])
                | succ k2 =>
                  have H := HA.out
                  clear HA
                  simp only [laws_FnNums.l0] at H
                  by_cases c45 : x8_2 < t238
                  · rw [if_pos c45] at H
                    have c45b0 : decide (x8_2 < t238) = true := decide_eq_true c45
                    clear c45
                    have H' := Aside0.mk H
                    clear H
                    go_wp2
                    go_roundg k2
                    case measure => have := HJ8.out; have := HK2.out; omega
                    case rel => exact ⟨(wrap64 (2 * x7_2)), (wrap64 (x8_2 + 1)), (by first | rfl | (simp; done) | (simp [*]; done)), (by first | rfl | (simp; done) | (simp [*]; done)), H', ⟨by have := HJ8.out; have := HK2.out; omega⟩, ⟨by (with_reducible repeat (first | apply Kd.R_alloc | apply Kd.R_drewN | apply Kd.R_drew)); exact HO_3.out⟩, ⟨by (with_reducible repeat (first | apply Kd.R_alloc | apply Kd.R_drewN | apply Kd.R_drew)); exact HO_5.out⟩, ⟨by repeat (first | (with_reducible first | exact HB.out | apply below_alloc | apply pw_below_drewN | apply below_drew1) | exact HB.out)⟩⟩
                  · rw [if_neg c45] at H
                    have c45b0 : decide (x8_2 < t238) = false := decide_eq_false c45
                    clear c45
                    have H' := Aside0.mk H
                    clear H
                    go_wp2
                    go_loopg [9] k2 (fun kq v9 w' => ∃ (x9_3 : Int), v9 = .int .i64 x9_3 ∧ Aside0 (laws_FnNums.l1 kq t237 t238 t242 x7_2 x9_3 = some r) ∧ Aside0 (kq ≤ k2) ∧ Aside0 (Kd.R (Kd.int .i64) 3 w' w.heap.size (fun k_ => some k_ ≠ (v244 : Value).ownBlock) v239 t237) ∧ Aside0 (Kd.R (Kd.int .i64) 3 w' w.heap.size (fun k_ => some k_ ≠ (v239 : Value).ownBlock) v244 t242) ∧ Aside0 (Below w.heap.size w w'))
                    case atStart => exact ⟨(0), (by first | rfl | (simp; done) | (simp [*]; done)), H', ⟨Nat.le_refl _⟩, ⟨by (with_reducible repeat (first | apply Kd.R_alloc | apply Kd.R_drewN | apply Kd.R_drew)); exact HO_3.out⟩, ⟨by (with_reducible repeat (first | apply Kd.R_alloc | apply Kd.R_drewN | apply Kd.R_drew)); exact HO_5.out⟩, ⟨by repeat (first | (with_reducible first | exact HB.out | apply below_alloc | apply pw_below_drewN | apply below_drew1) | exact HB.out)⟩⟩
                    case round =>
                      clear H'
                      try clear c1
                      try clear c2
                      try clear p2
                      try clear c3
                      try clear c4
                      try clear c6
                      try clear c6b0
                      try clear c6b1
                      try clear p6
                      try clear c7
                      try clear c7b0
                      try clear c7b1
                      try clear c9
                      try clear c10
                      try clear c11
                      try clear c12
                      try clear c14
                      try clear c14b0
                      try clear c14b1
                      try clear c15
                      try clear c15b0
                      try clear c15b1
                      try clear c20
                      try clear c20b0
                      try clear c25
                      try clear c25b0
                      try clear c37
                      try clear c45
                      try clear c45b0
                      try clear p2
                      try clear p6
                      obtain ⟨x9_3, rfl, HA, HK3, HO_3, HO_5, HB⟩ := hrel
                      cases gk with
                      | zero => exact absurd HA.out (by simp [laws_FnNums.l1])
                      | succ k3 =>
                        have H := HA.out
                        clear HA
                        simp only [laws_FnNums.l1] at H
                        by_cases c46 : x9_3 < (t237.length : Int)
                        · rw [if_pos c46] at H
                          have c46b0 : decide (x9_3 < (t237.length : Int)) = true := decide_eq_true c46
                          clear c46
                          by_cases c47 : 0 ≤ x9_3
                          · rw [if_pos c47] at H
                            have c47b0 : decide (0 ≤ x9_3) = true := decide_eq_true c47
                            clear c47
                            by_cases c48 : (rd t237 x9_3) < 0
                            · rw [if_pos c48] at H
                              have c48b0 : decide ((rd t237 x9_3) < 0) = true := decide_eq_true c48
                              clear c48
                              replace H := Option.bind_eq_some_iff.mp H
                              obtain ⟨t256, A490, H⟩ := H
                              replace H : (some ((t256.length : Int) == 0)) = some r := H
                              have A49 := Aside0.mk A490
                              clear A490
                              obtain rfl := Option.some.inj H
                              obtain ⟨Ao50, co50, eo50⟩ := Kd.R_slice HO_3.out
                              subst eo50
                              have p255 : 0 ≤ (x9_3 : Int) := of_decide_eq_true (by first | (with_reducible assumption) | assumption)
                              have q255 : x9_3 < (t237.length : Int) := of_decide_eq_true (by first | (with_reducible assumption) | assumption)
                              obtain ⟨ad255, e255, hx255_0⟩ := Kd.at_int (Kd.R_reads' HO_3.out).2.2 x9_3 p255 q255
                              cases e255
                              replace p255 := eq_true p255
                              replace q255 := eq_true q255
                              go_wp2_with (first | ((with_reducible refine gate_callee (f := 12) rfl ?_); refine goesL_ (some 99) rfl rfl Try.func12 (by kernel_rfl) rfl #[.slice (some ad255) t237.length co50, .int .i64 t238] rfl (by (try simp only [List.map_toArray, List.map_cons, List.map_nil]); first | done | rfl | (simp only [List.length_drop, List.length_take]; rfl)) ?_; (with_reducible refine (impl_NumsOf.calls k3 _ _ t237 t238 t256 _ ?side1 ?side2 A49.out).mono ?_); (case side1 => repeat (first | exact (Kd.R_reads' HO_3.out).2.2 | (with_reducible refine Kd.C_alloc ?_ _) | (with_reducible refine Kd.C_drewN ?_ _) | (with_reducible refine Kd.C_drew ?_))); (case side2 => exact (Kd.R_reads' HO_3.out).2.1); rintro e w51 ⟨v257, rfl, ho0, hb⟩; refine ⟨_, rfl, ?_⟩; have n0_ := Aside0.mk (Kd.R_below (by (with_reducible repeat (first | apply Kd.R_alloc | apply Kd.R_drewN | apply Kd.R_drew)); exact HO_3.out) hb); have n1_ := Aside0.mk (Kd.R_below (by (with_reducible repeat (first | apply Kd.R_alloc | apply Kd.R_drewN | apply Kd.R_drew)); exact HO_5.out) hb); have n2_ := Aside0.mk (Kd.R_lower ho0 (below_size (by repeat (first | (with_reducible first | exact HB.out | apply below_alloc | apply pw_below_drewN | apply below_drew1) | exact HB.out)))); have n3_ := Aside0.mk (below_step (by repeat (first | (with_reducible first | exact HB.out | apply below_alloc | apply pw_below_drewN | apply below_drew1) | exact HB.out)) hb); clear HO_3; clear HO_5; clear HB; have HO_3 := n0_; have HO_5 := n1_; have HO258 := n2_; have HB := n3_; clear n0_ n1_ n2_ n3_; (try clear hb); (try clear hb2); (try clear hk); (try clear hi); (try clear ho0); obtain ⟨Ao52, co52, eo52⟩ := Kd.R_slice HO258.out; subst eo52))
                              go_ret
                              exact ⟨by first | rfl | (simp [errW_none, errW_some] <;> rfl) | (simp only [← hji5]; first | rfl | (simp [errW_none, errW_some] <;> rfl)) | (simp [*, errW_none, errW_some] <;> rfl), by repeat (first | (with_reducible first | exact HB.out | apply below_alloc | apply pw_below_drewN | apply below_drew1) | exact HB.out)⟩
                            · rw [if_neg c48] at H
                              have c48b0 : decide ((rd t237 x9_3) < 0) = false := decide_eq_false c48
                              clear c48
                              by_cases c53 : (rd t237 x9_3) ≥ x7_2
                              · rw [if_pos c53] at H
                                have c53b0 : decide (x7_2 ≤ (rd t237 x9_3)) = true := decide_eq_true c53
                                clear c53
                                replace H := Option.bind_eq_some_iff.mp H
                                obtain ⟨t260, A540, H⟩ := H
                                replace H : (some ((t260.length : Int) == 0)) = some r := H
                                have A54 := Aside0.mk A540
                                clear A540
                                obtain rfl := Option.some.inj H
                                obtain ⟨Ao55, co55, eo55⟩ := Kd.R_slice HO_3.out
                                subst eo55
                                have p255 : 0 ≤ (x9_3 : Int) := of_decide_eq_true (by first | (with_reducible assumption) | assumption)
                                have q255 : x9_3 < (t237.length : Int) := of_decide_eq_true (by first | (with_reducible assumption) | assumption)
                                obtain ⟨ad255, e255, hx255_0⟩ := Kd.at_int (Kd.R_reads' HO_3.out).2.2 x9_3 p255 q255
                                cases e255
                                replace p255 := eq_true p255
                                replace q255 := eq_true q255
                                have p259 : 0 ≤ (x9_3 : Int) := of_decide_eq_true (by first | (with_reducible assumption) | assumption)
                                have q259 : x9_3 < (t237.length : Int) := of_decide_eq_true (by first | (with_reducible assumption) | assumption)
                                obtain ⟨ad259, e259, hx259_0⟩ := Kd.at_int (Kd.R_reads' HO_3.out).2.2 x9_3 p259 q259
                                obtain rfl : ad255 = ad259 := (by injection e259)
                                replace p259 := eq_true p259
                                replace q259 := eq_true q259
                                go_wp2_with (first | ((with_reducible refine gate_callee (f := 12) rfl ?_); refine goesL_ (some 99) rfl rfl Try.func12 (by kernel_rfl) rfl #[.slice (some ad255) t237.length co55, .int .i64 t238] rfl (by (try simp only [List.map_toArray, List.map_cons, List.map_nil]); first | done | rfl | (simp only [List.length_drop, List.length_take]; rfl)) ?_; (with_reducible refine (impl_NumsOf.calls k3 _ _ t237 t238 t260 _ ?side1 ?side2 A54.out).mono ?_); (case side1 => repeat (first | exact (Kd.R_reads' HO_3.out).2.2 | (with_reducible refine Kd.C_alloc ?_ _) | (with_reducible refine Kd.C_drewN ?_ _) | (with_reducible refine Kd.C_drew ?_))); (case side2 => exact (Kd.R_reads' HO_3.out).2.1); rintro e w56 ⟨v261, rfl, ho0, hb⟩; refine ⟨_, rfl, ?_⟩; have n0_ := Aside0.mk (Kd.R_below (by (with_reducible repeat (first | apply Kd.R_alloc | apply Kd.R_drewN | apply Kd.R_drew)); exact HO_3.out) hb); have n1_ := Aside0.mk (Kd.R_below (by (with_reducible repeat (first | apply Kd.R_alloc | apply Kd.R_drewN | apply Kd.R_drew)); exact HO_5.out) hb); have n2_ := Aside0.mk (Kd.R_lower ho0 (below_size (by repeat (first | (with_reducible first | exact HB.out | apply below_alloc | apply pw_below_drewN | apply below_drew1) | exact HB.out)))); have n3_ := Aside0.mk (below_step (by repeat (first | (with_reducible first | exact HB.out | apply below_alloc | apply pw_below_drewN | apply below_drew1) | exact HB.out)) hb); clear HO_3; clear HO_5; clear HB; have HO_3 := n0_; have HO_5 := n1_; have HO262 := n2_; have HB := n3_; clear n0_ n1_ n2_ n3_; (try clear hb); (try clear hb2); (try clear hk); (try clear hi); (try clear ho0); obtain ⟨Ao57, co57, eo57⟩ := Kd.R_slice HO262.out; subst eo57))
                                go_ret
                                exact ⟨by first | rfl | (simp [errW_none, errW_some] <;> rfl) | (simp only [← hji5]; first | rfl | (simp [errW_none, errW_some] <;> rfl)) | (simp [*, errW_none, errW_some] <;> rfl), by repeat (first | (with_reducible first | exact HB.out | apply below_alloc | apply pw_below_drewN | apply below_drew1) | exact HB.out)⟩
                              · rw [if_neg c53] at H
                                have c53b0 : decide (x7_2 ≤ (rd t237 x9_3)) = false := decide_eq_false c53
                                clear c53
                                have H' := Aside0.mk H
                                clear H
                                obtain ⟨Ao58, co58, eo58⟩ := Kd.R_slice HO_3.out
                                subst eo58
                                have p255 : 0 ≤ (x9_3 : Int) := of_decide_eq_true (by first | (with_reducible assumption) | assumption)
                                have q255 : x9_3 < (t237.length : Int) := of_decide_eq_true (by first | (with_reducible assumption) | assumption)
                                obtain ⟨ad255, e255, hx255_0⟩ := Kd.at_int (Kd.R_reads' HO_3.out).2.2 x9_3 p255 q255
                                cases e255
                                replace p255 := eq_true p255
                                replace q255 := eq_true q255
                                have p259 : 0 ≤ (x9_3 : Int) := of_decide_eq_true (by first | (with_reducible assumption) | assumption)
                                have q259 : x9_3 < (t237.length : Int) := of_decide_eq_true (by first | (with_reducible assumption) | assumption)
                                obtain ⟨ad259, e259, hx259_0⟩ := Kd.at_int (Kd.R_reads' HO_3.out).2.2 x9_3 p259 q259
                                obtain rfl : ad255 = ad259 := (by injection e259)
                                replace p259 := eq_true p259
                                replace q259 := eq_true q259
                                go_wp2
                                go_roundg k3
                                case measure => have := HJ8.out; have := HK2.out; have := HK3.out; omega
                                case rel => exact ⟨(wrap64 (x9_3 + 1)), (by first | rfl | (simp; done) | (simp [*]; done)), H', ⟨by have := HJ8.out; have := HK2.out; have := HK3.out; omega⟩, ⟨by (with_reducible repeat (first | apply Kd.R_alloc | apply Kd.R_drewN | apply Kd.R_drew)); exact HO_3.out⟩, ⟨by (with_reducible repeat (first | apply Kd.R_alloc | apply Kd.R_drewN | apply Kd.R_drew)); exact HO_5.out⟩, ⟨by repeat (first | (with_reducible first | exact HB.out | apply below_alloc | apply pw_below_drewN | apply below_drew1) | exact HB.out)⟩⟩
                          · rw [if_neg c47] at H
                            exact absurd H (by simp)
                        · rw [if_neg c46] at H
                          have c46b0 : decide (x9_3 < (t237.length : Int)) = false := decide_eq_false c46
                          clear c46
                          obtain ⟨y263, hy263⟩ : ∃ y_ : List Int, y_ = (([] : List Int)) := ⟨_, rfl⟩
                          replace H : (laws_FnNums.l2 k3 t237 t238 t242 x7_2 y263 0) = some r := by first | (rw [hy263]; with_reducible exact H) | (have H2_ := (Option.bind_some _ _).symm.trans H; rw [hy263]; with_reducible exact H2_) | (have H2_ := (Option.bind_some _ _).symm.trans H; with_reducible exact H2_) | with_reducible exact H | (rw [hy263]; exact H) | exact H
                          have Ny263 := Aside0.mk hy263
                          clear hy263
                          have H' := Aside0.mk H
                          clear H
                          obtain ⟨Ao59, co59, eo59⟩ := Kd.R_slice HO_3.out
                          subst eo59
                          go_wp2_with (first | ((with_reducible refine gate_dst (N := 102) rfl ?_); (try (refine gate_guard (by rfl) ?_; dsimp only)); refine Kd.R_lit (Kd.int .i64) _ 3 ?hg (N := 102) ?hd (xs := ([] : List Int)) (inner := []) (ok := fun _ => True) (okp := fun _ => True) ?hr ?hp (fun _ hk => hk) trivial (Below.refl _ _) (Nat.le_refl _) (by simp) ?_; (case hd => rfl); (case hg => rfl); (case hr => first | (go_simp; done) | (go_simp; rfl)); (case hp => exact (Reps.none _ _)); intro v264 w60 ho61 hb hg_ hnew_; clear hg_ hnew_; (first | rw [← Ny263.out] at ho61 | (simp only [Int.reduceToNat] at ho61; rw [← Ny263.out] at ho61)); have n0_ := Aside0.mk (Kd.R_elder' (by (with_reducible repeat (first | apply Kd.R_alloc | apply Kd.R_drewN | apply Kd.R_drew)); exact HO_3.out) (Kd.R_base ho61) hb); have n1_ := Aside0.mk (Kd.R_elder' (by (with_reducible repeat (first | apply Kd.R_alloc | apply Kd.R_drewN | apply Kd.R_drew)); exact HO_5.out) (Kd.R_base ho61) hb); have n2_ := Aside0.mk (Kd.R_lower (Kd.R_new' (Kd.R_new' ho61 (Kd.R_lt (by (with_reducible repeat (first | apply Kd.R_alloc | apply Kd.R_drewN | apply Kd.R_drew)); exact HO_3.out))) (Kd.R_lt (by (with_reducible repeat (first | apply Kd.R_alloc | apply Kd.R_drewN | apply Kd.R_drew)); exact HO_5.out))) (below_size (by repeat (first | (with_reducible first | exact HB.out | apply below_alloc | apply pw_below_drewN | apply below_drew1) | exact HB.out)))); have n3_ := Aside0.mk (below_step (by repeat (first | (with_reducible first | exact HB.out | apply below_alloc | apply pw_below_drewN | apply below_drew1) | exact HB.out)) hb); clear HO_3; clear HO_5; clear HB; have HO_3 := n0_; have HO_5 := n1_; have HO265 := n2_; have HB := n3_; clear n0_ n1_ n2_ n3_; clear hb ho61))
                          go_loopg [10, 11] k3 (fun kq v10 v11 w' => ∃ (x10_4 : List Int) (x11_4 : Int), v11 = .int .i64 x11_4 ∧ Aside0 (laws_FnNums.l2 kq t237 t238 t242 x7_2 x10_4 x11_4 = some r) ∧ Aside0 (kq ≤ k3) ∧ Aside0 (Kd.R (Kd.int .i64) 3 w' w.heap.size (fun k_ => some k_ ≠ (v244 : Value).ownBlock ∧ some k_ ≠ (v10 : Value).ownBlock) (.slice Ao59 t237.length co59) t237) ∧ Aside0 (Kd.R (Kd.int .i64) 3 w' w.heap.size (fun k_ => some k_ ≠ ((.slice Ao59 t237.length co59) : Value).ownBlock ∧ some k_ ≠ (v10 : Value).ownBlock) v244 t242) ∧ Aside0 (Kd.R (Kd.int .i64) 3 w' w.heap.size (fun k_ => some k_ ≠ ((.slice Ao59 t237.length co59) : Value).ownBlock ∧ some k_ ≠ (v244 : Value).ownBlock) v10 x10_4) ∧ Aside0 (Below w.heap.size w w'))
                          case atStart => exact ⟨(y263), (0), (by first | rfl | (simp; done) | (simp [*]; done)), H', ⟨Nat.le_refl _⟩, ⟨by (with_reducible repeat (first | apply Kd.R_alloc | apply Kd.R_drewN | apply Kd.R_drew)); exact HO_3.out⟩, ⟨by (with_reducible repeat (first | apply Kd.R_alloc | apply Kd.R_drewN | apply Kd.R_drew)); exact HO_5.out⟩, ⟨by (with_reducible repeat (first | apply Kd.R_alloc | apply Kd.R_drewN | apply Kd.R_drew)); exact Kd.R_mono HO265.out (fun _ hk => ⟨hk.1.2, hk.2⟩)⟩, ⟨by repeat (first | (with_reducible first | exact HB.out | apply below_alloc | apply pw_below_drewN | apply below_drew1) | exact HB.out)⟩⟩
                          case round =>
                            clear H'
                            try clear c1
                            try clear c2
                            try clear p2
                            try clear q2
                            try clear hx2
                            try clear c3
                            try clear c4
                            try clear c5
                            try clear c6
                            try clear c6b0
                            try clear c6b1
                            try clear p6
                            try clear c7
                            try clear c7b0
                            try clear c7b1
                            try clear c9
                            try clear c10
                            try clear c11
                            try clear c12
                            try clear c14
                            try clear c14b0
                            try clear c14b1
                            try clear c15
                            try clear c15b0
                            try clear c15b1
                            try clear c20
                            try clear c20b0
                            try clear c25
                            try clear c25b0
                            try clear p25
                            try clear q25
                            try clear hx25
                            try clear c37
                            try clear c45
                            try clear c45b0
                            try clear c46
                            try clear c46b0
                            try clear c47
                            try clear c47b0
                            try clear c48
                            try clear c48b0
                            try clear c53
                            try clear c53b0
                            try clear hx255_0
                            try clear hx259_0
                            try clear p2
                            try clear p255
                            try clear p259
                            try clear p6
                            try clear q255
                            try clear q259
                            obtain ⟨x10_4, x11_4, rfl, HA, HK4, HO_3, HO_5, HO_10, HB⟩ := hrel
                            cases gk with
                            | zero => exact absurd HA.out (by simp [laws_FnNums.l2])
                            | succ k4 =>
                              have H := HA.out
                              clear HA
                              simp only [laws_FnNums.l2] at H
                              by_cases c62 : x11_4 < (t242.length : Int)
                              · rw [if_pos c62] at H
                                have c62b0 : decide (x11_4 < (t242.length : Int)) = true := decide_eq_true c62
                                clear c62
                                by_cases c63 : 0 ≤ x11_4
                                · rw [if_pos c63] at H
                                  have c63b0 : decide (0 ≤ x11_4) = true := decide_eq_true c63
                                  clear c63
                                  by_cases c64 : x7_2 = 0
                                  · rw [if_pos c64] at H
                                    exact absurd H (by simp)
                                  · rw [if_neg c64] at H
                                    have c64b0 : (x7_2 == 0) = false := beq_eq_false_iff_ne.mpr c64
                                    have c64b1 : (x7_2 != 0) = true := bne_iff_ne.mpr c64
                                    by_cases c65 : (Int.tmod (rd t242 x11_4) x7_2) < 0
                                    · rw [if_pos c65] at H
                                      have c65b0 : decide ((Int.tmod (rd t242 x11_4) x7_2) < 0) = true := decide_eq_true c65
                                      clear c65
                                      by_cases c66 : x10_4.length < 17592186044416
                                      · rw [if_pos c66] at H
                                        have LMc66 := Aside0.mk c66
                                        clear c66
                                        obtain ⟨y267, hy267⟩ : ∃ y_ : List Int, y_ = (x10_4 ++ [wrap64 ((Int.tmod (rd t242 x11_4) x7_2) + x7_2)]) := ⟨_, rfl⟩
                                        replace H : (laws_FnNums.l2 k4 t237 t238 t242 x7_2 y267 (wrap64 (x11_4 + 1))) = some r := by first | (rw [hy267]; with_reducible exact H) | (have H2_ := (Option.bind_some _ _).symm.trans H; rw [hy267]; with_reducible exact H2_) | (have H2_ := (Option.bind_some _ _).symm.trans H; with_reducible exact H2_) | with_reducible exact H | (rw [hy267]; exact H) | exact H
                                        have Ny267 := Aside0.mk hy267
                                        clear hy267
                                        have H' := Aside0.mk H
                                        clear H
                                        obtain ⟨Ao67, co67, eo67⟩ := Kd.R_slice HO_5.out
                                        subst eo67
                                        have p266 : 0 ≤ (x11_4 : Int) := of_decide_eq_true (by first | (with_reducible assumption) | assumption)
                                        have q266 : x11_4 < (t242.length : Int) := of_decide_eq_true (by first | (with_reducible assumption) | assumption)
                                        obtain ⟨ad266, e266, hx266_0⟩ := Kd.at_int (Kd.R_reads' HO_5.out).2.2 x11_4 p266 q266
                                        cases e266
                                        replace p266 := eq_true p266
                                        replace q266 := eq_true q266
                                        go_wp2_with (first | ((with_reducible refine gate_builtin (b := .append) (xs := #[.tmp 120, .tmp 122]) rfl ?_); (try (refine gate_guard (by rfl) ?_; dsimp only)); at_builtin; refine Kd.R_append (Kd.int .i64) (w0 := w) w.heap.size rfl (.tmp 120) (.tmp 122) 24 3 (.int .i64 0) 8 rfl Try.underlying24 info3 rfl (by decide) (by omega) u10 x10_4 (wrap64 ((Int.tmod (rd t242 x11_4) x7_2) + x7_2)) [.int .i64 (wrap64 ((Int.tmod (rd t242 x11_4) x7_2) + x7_2))] (fun k_ => some k_ ≠ (.slice Ao59 t237.length co59 : Value).ownBlock ∧ some k_ ≠ (.slice (some ad266) t242.length co67 : Value).ownBlock) (fun _ => False) rfl rfl ?aP (fun _ hk => hk.elim) ?aF ?aO ?aB ?aS ?aL ?_; (case aP => exact rfl); (case aB => exact (by repeat (first | (with_reducible first | exact HB.out | apply below_alloc | apply pw_below_drewN | apply below_drew1) | exact HB.out))); (case aF => exact (fun k_ hk => ⟨Kd.fresh' (Kd.R_lt (by (with_reducible repeat (first | apply Kd.R_alloc | apply Kd.R_drewN | apply Kd.R_drew)); exact HO_3.out)) k_ hk, Kd.fresh' (Kd.R_lt (by (with_reducible repeat (first | apply Kd.R_alloc | apply Kd.R_drewN | apply Kd.R_drew)); exact HO_5.out)) k_ hk⟩)); (case aO => exact (by (with_reducible repeat (first | apply Kd.R_alloc | apply Kd.R_drewN | apply Kd.R_drew)); exact HO_10.out)); (case aS => exact (below_size (by repeat (first | (with_reducible first | exact HB.out | apply below_alloc | apply pw_below_drewN | apply below_drew1) | exact HB.out)))); (case aL => have := LMc66.out; omega); intro v268 w68 ho hb hg hat; rw [← Ny267.out] at ho; have n0_ := Aside0.mk (Kd.R_after (ok := (fun k_ => some k_ ≠ (.slice (some ad266) t242.length co67 : Value).ownBlock)) (by (with_reducible repeat (first | apply Kd.R_alloc | apply Kd.R_drewN | apply Kd.R_drew)); exact HO_3.out) hg hat); have n1_ := Aside0.mk (Kd.R_after (ok := (fun k_ => some k_ ≠ (.slice Ao59 t237.length co59 : Value).ownBlock)) (by (with_reducible repeat (first | apply Kd.R_alloc | apply Kd.R_drewN | apply Kd.R_drew)); exact HO_5.out) hg hat); have n2_ := Aside0.mk (hb); have n3_ := Aside0.mk (ho); clear HO_3; clear HO_5; clear HB; clear HO_10; have HO_3 := n0_; have HO_5 := n1_; have HB := n2_; have HO269 := n3_; clear n0_ n1_ n2_ n3_; clear ho hb hg hat))
                                        go_roundg k4
                                        case measure => have := HJ8.out; have := HK2.out; have := HK3.out; have := HK4.out; omega
                                        case rel => exact ⟨(y267), (wrap64 (x11_4 + 1)), (by first | rfl | (simp; done) | (simp [*]; done)), H', ⟨by have := HJ8.out; have := HK2.out; have := HK3.out; have := HK4.out; omega⟩, ⟨by (with_reducible repeat (first | apply Kd.R_alloc | apply Kd.R_drewN | apply Kd.R_drew)); exact HO_3.out⟩, ⟨by (with_reducible repeat (first | apply Kd.R_alloc | apply Kd.R_drewN | apply Kd.R_drew)); exact HO_5.out⟩, ⟨by (with_reducible repeat (first | apply Kd.R_alloc | apply Kd.R_drewN | apply Kd.R_drew)); exact HO269.out⟩, ⟨by repeat (first | (with_reducible first | exact HB.out | apply below_alloc | apply pw_below_drewN | apply below_drew1) | exact HB.out)⟩⟩
                                      · rw [if_neg c66] at H
                                        exact absurd H (by simp)
                                    · rw [if_neg c65] at H
                                      have c65b0 : decide ((Int.tmod (rd t242 x11_4) x7_2) < 0) = false := decide_eq_false c65
                                      clear c65
                                      by_cases c69 : x10_4.length < 17592186044416
                                      · rw [if_pos c69] at H
                                        have LMc69 := Aside0.mk c69
                                        clear c69
                                        obtain ⟨y270, hy270⟩ : ∃ y_ : List Int, y_ = (x10_4 ++ [Int.tmod (rd t242 x11_4) x7_2]) := ⟨_, rfl⟩
                                        replace H : (laws_FnNums.l2 k4 t237 t238 t242 x7_2 y270 (wrap64 (x11_4 + 1))) = some r := by first | (rw [hy270]; with_reducible exact H) | (have H2_ := (Option.bind_some _ _).symm.trans H; rw [hy270]; with_reducible exact H2_) | (have H2_ := (Option.bind_some _ _).symm.trans H; with_reducible exact H2_) | with_reducible exact H | (rw [hy270]; exact H) | exact H
                                        have Ny270 := Aside0.mk hy270
                                        clear hy270
                                        have H' := Aside0.mk H
                                        clear H
                                        obtain ⟨Ao70, co70, eo70⟩ := Kd.R_slice HO_5.out
                                        subst eo70
                                        have p266 : 0 ≤ (x11_4 : Int) := of_decide_eq_true (by first | (with_reducible assumption) | assumption)
                                        have q266 : x11_4 < (t242.length : Int) := of_decide_eq_true (by first | (with_reducible assumption) | assumption)
                                        obtain ⟨ad266, e266, hx266_0⟩ := Kd.at_int (Kd.R_reads' HO_5.out).2.2 x11_4 p266 q266
                                        cases e266
                                        replace p266 := eq_true p266
                                        replace q266 := eq_true q266
                                        go_wp2_with (first | ((with_reducible refine gate_builtin (b := .append) (xs := #[.tmp 120, .tmp 122]) rfl ?_); (try (refine gate_guard (by rfl) ?_; dsimp only)); at_builtin; refine Kd.R_append (Kd.int .i64) (w0 := w) w.heap.size rfl (.tmp 120) (.tmp 122) 24 3 (.int .i64 0) 8 rfl Try.underlying24 info3 rfl (by decide) (by omega) u10 x10_4 (Int.tmod (rd t242 x11_4) x7_2) [.int .i64 (Int.tmod (rd t242 x11_4) x7_2)] (fun k_ => some k_ ≠ (.slice Ao59 t237.length co59 : Value).ownBlock ∧ some k_ ≠ (.slice (some ad266) t242.length co70 : Value).ownBlock) (fun _ => False) rfl rfl ?aP (fun _ hk => hk.elim) ?aF ?aO ?aB ?aS ?aL ?_; (case aP => exact rfl); (case aB => exact (by repeat (first | (with_reducible first | exact HB.out | apply below_alloc | apply pw_below_drewN | apply below_drew1) | exact HB.out))); (case aF => exact (fun k_ hk => ⟨Kd.fresh' (Kd.R_lt (by (with_reducible repeat (first | apply Kd.R_alloc | apply Kd.R_drewN | apply Kd.R_drew)); exact HO_3.out)) k_ hk, Kd.fresh' (Kd.R_lt (by (with_reducible repeat (first | apply Kd.R_alloc | apply Kd.R_drewN | apply Kd.R_drew)); exact HO_5.out)) k_ hk⟩)); (case aO => exact (by (with_reducible repeat (first | apply Kd.R_alloc | apply Kd.R_drewN | apply Kd.R_drew)); exact HO_10.out)); (case aS => exact (below_size (by repeat (first | (with_reducible first | exact HB.out | apply below_alloc | apply pw_below_drewN | apply below_drew1) | exact HB.out)))); (case aL => have := LMc69.out; omega); intro v271 w71 ho hb hg hat; rw [← Ny270.out] at ho; have n0_ := Aside0.mk (Kd.R_after (ok := (fun k_ => some k_ ≠ (.slice (some ad266) t242.length co70 : Value).ownBlock)) (by (with_reducible repeat (first | apply Kd.R_alloc | apply Kd.R_drewN | apply Kd.R_drew)); exact HO_3.out) hg hat); have n1_ := Aside0.mk (Kd.R_after (ok := (fun k_ => some k_ ≠ (.slice Ao59 t237.length co59 : Value).ownBlock)) (by (with_reducible repeat (first | apply Kd.R_alloc | apply Kd.R_drewN | apply Kd.R_drew)); exact HO_5.out) hg hat); have n2_ := Aside0.mk (hb); have n3_ := Aside0.mk (ho); clear HO_3; clear HO_5; clear HB; clear HO_10; have HO_3 := n0_; have HO_5 := n1_; have HB := n2_; have HO272 := n3_; clear n0_ n1_ n2_ n3_; clear ho hb hg hat))
                                        go_roundg k4
                                        case measure => have := HJ8.out; have := HK2.out; have := HK3.out; have := HK4.out; omega
                                        case rel => exact ⟨(y270), (wrap64 (x11_4 + 1)), (by first | rfl | (simp; done) | (simp [*]; done)), H', ⟨by have := HJ8.out; have := HK2.out; have := HK3.out; have := HK4.out; omega⟩, ⟨by (with_reducible repeat (first | apply Kd.R_alloc | apply Kd.R_drewN | apply Kd.R_drew)); exact HO_3.out⟩, ⟨by (with_reducible repeat (first | apply Kd.R_alloc | apply Kd.R_drewN | apply Kd.R_drew)); exact HO_5.out⟩, ⟨by (with_reducible repeat (first | apply Kd.R_alloc | apply Kd.R_drewN | apply Kd.R_drew)); exact HO272.out⟩, ⟨by repeat (first | (with_reducible first | exact HB.out | apply below_alloc | apply pw_below_drewN | apply below_drew1) | exact HB.out)⟩⟩
                                      · rw [if_neg c69] at H
                                        exact absurd H (by simp)
                                · rw [if_neg c63] at H
                                  exact absurd H (by simp)
                              · rw [if_neg c62] at H
                                have c62b0 : decide (x11_4 < (t242.length : Int)) = false := decide_eq_false c62
                                clear c62
                                replace H := Option.bind_eq_some_iff.mp H
                                obtain ⟨t273, A720, H⟩ := H
                                replace H : ((impl_NumsOf.f k4 x10_4 t238).bind fun t276 => (if (t273.length : Int) = t238 then (laws_FnNums.j4 k4 t237 x7_2 x10_4 t273 t276 ((t276.length : Int) != t238)) else (laws_FnNums.j4 k4 t237 x7_2 x10_4 t273 t276 true))) = some r := H
                                have A72 := Aside0.mk A720
                                clear A720
                                replace H := Option.bind_eq_some_iff.mp H
                                obtain ⟨t276, A730, H⟩ := H
                                replace H : (if (t273.length : Int) = t238 then (laws_FnNums.j4 k4 t237 x7_2 x10_4 t273 t276 ((t276.length : Int) != t238)) else (laws_FnNums.j4 k4 t237 x7_2 x10_4 t273 t276 true)) = some r := H
                                have A73 := Aside0.mk A730
                                clear A730
                                have HC74 := Aside0.mk H
                                clear H
                                obtain ⟨Ao75, co75, eo75⟩ := Kd.R_slice HO_5.out
                                subst eo75
                                go_upto_region 27 with (first | ((with_reducible refine gate_callee (f := 12) rfl ?_); refine goesL_ (some 126) rfl rfl Try.func12 (by kernel_rfl) rfl #[.slice Ao59 t237.length co59, .int .i64 t238] rfl (by (try simp only [List.map_toArray, List.map_cons, List.map_nil]); first | done | rfl | (simp only [List.length_drop, List.length_take]; rfl)) ?_; (with_reducible refine (impl_NumsOf.calls k4 _ _ t237 t238 t273 _ ?side1 ?side2 A72.out).mono ?_); (case side1 => repeat (first | exact (Kd.R_reads' HO_3.out).2.2 | (with_reducible refine Kd.C_alloc ?_ _) | (with_reducible refine Kd.C_drewN ?_ _) | (with_reducible refine Kd.C_drew ?_))); (case side2 => exact (Kd.R_reads' HO_3.out).2.1); rintro e w76 ⟨v274, rfl, ho0, hb⟩; refine ⟨_, rfl, ?_⟩; have n0_ := Aside0.mk (Kd.R_below (by (with_reducible repeat (first | apply Kd.R_alloc | apply Kd.R_drewN | apply Kd.R_drew)); exact HO_3.out) hb); have n1_ := Aside0.mk (Kd.R_below (by (with_reducible repeat (first | apply Kd.R_alloc | apply Kd.R_drewN | apply Kd.R_drew)); exact HO_5.out) hb); have n2_ := Aside0.mk (Kd.R_below (by (with_reducible repeat (first | apply Kd.R_alloc | apply Kd.R_drewN | apply Kd.R_drew)); exact HO_10.out) hb); have n3_ := Aside0.mk (Kd.R_lower ho0 (below_size (by repeat (first | (with_reducible first | exact HB.out | apply below_alloc | apply pw_below_drewN | apply below_drew1) | exact HB.out)))); have n4_ := Aside0.mk (below_step (by repeat (first | (with_reducible first | exact HB.out | apply below_alloc | apply pw_below_drewN | apply below_drew1) | exact HB.out)) hb); clear HO_3; clear HO_5; clear HO_10; clear HB; have HO_3 := n0_; have HO_5 := n1_; have HO_10 := n2_; have HO275 := n3_; have HB := n4_; clear n0_ n1_ n2_ n3_ n4_; (try clear hb); (try clear hb2); (try clear hk); (try clear hi); (try clear ho0); obtain ⟨Ao77, co77, eo77⟩ := Kd.R_slice HO_10.out; subst eo77) | ((with_reducible refine gate_callee (f := 12) rfl ?_); refine goesL_ (some 129) rfl rfl Try.func12 (by kernel_rfl) rfl #[.slice Ao77 x10_4.length co77, .int .i64 t238] rfl (by (try simp only [List.map_toArray, List.map_cons, List.map_nil]); first | done | rfl | (simp only [List.length_drop, List.length_take]; rfl)) ?_; (with_reducible refine (impl_NumsOf.calls k4 _ _ x10_4 t238 t276 _ ?side1 ?side2 A73.out).mono ?_); (case side1 => repeat (first | exact (Kd.R_reads' HO_10.out).2.2 | (with_reducible refine Kd.C_alloc ?_ _) | (with_reducible refine Kd.C_drewN ?_ _) | (with_reducible refine Kd.C_drew ?_))); (case side2 => exact (Kd.R_reads' HO_10.out).2.1); rintro e w78 ⟨v277, rfl, ho0, hb⟩; refine ⟨_, rfl, ?_⟩; have n0_ := Aside0.mk (Kd.R_below (by (with_reducible repeat (first | apply Kd.R_alloc | apply Kd.R_drewN | apply Kd.R_drew)); exact HO_3.out) hb); have n1_ := Aside0.mk (Kd.R_below (by (with_reducible repeat (first | apply Kd.R_alloc | apply Kd.R_drewN | apply Kd.R_drew)); exact HO_5.out) hb); have n2_ := Aside0.mk (Kd.R_below (by (with_reducible repeat (first | apply Kd.R_alloc | apply Kd.R_drewN | apply Kd.R_drew)); exact HO_10.out) hb); have n3_ := Aside0.mk (Kd.R_elder' (by (with_reducible repeat (first | apply Kd.R_alloc | apply Kd.R_drewN | apply Kd.R_drew)); exact HO275.out) (Kd.R_base ho0) hb); have n4_ := Aside0.mk (Kd.R_lower (Kd.R_new' ho0 (Kd.R_lt (by (with_reducible repeat (first | apply Kd.R_alloc | apply Kd.R_drewN | apply Kd.R_drew)); exact HO275.out))) (below_size (by repeat (first | (with_reducible first | exact HB.out | apply below_alloc | apply pw_below_drewN | apply below_drew1) | exact HB.out)))); have n5_ := Aside0.mk (below_step (by repeat (first | (with_reducible first | exact HB.out | apply below_alloc | apply pw_below_drewN | apply below_drew1) | exact HB.out)) hb); clear HO_3; clear HO_5; clear HO_10; clear HO275; clear HB; have HO_3 := n0_; have HO_5 := n1_; have HO_10 := n2_; have HO275 := n3_; have HO278 := n4_; have HB := n5_; clear n0_ n1_ n2_ n3_ n4_ n5_; (try clear hb); (try clear hb2); (try clear hk); (try clear hi); (try clear ho0)))
                                (try simp only [Act.put, List.setIfInBounds_toArray, List.set_cons_zero, List.set_cons_succ])
                                go_cut [139] (fun v139 wc => ∃ (kq : Nat) (x139_73 : Bool), v139 = .bool x139_73 ∧ Aside0 (laws_FnNums.j4 kq t237 x7_2 x10_4 t273 t276 x139_73 = some r) ∧ Aside0 (kq ≤ k4) ∧ Aside0 (Kd.R (Kd.int .i64) 3 wc w.heap.size (fun k_ => some k_ ≠ ((.slice Ao77 x10_4.length co77) : Value).ownBlock) (.slice Ao59 t237.length co59) t237) ∧ Aside0 (Kd.R (Kd.int .i64) 3 wc w.heap.size (fun k_ => some k_ ≠ ((.slice Ao59 t237.length co59) : Value).ownBlock) (.slice Ao77 x10_4.length co77) x10_4) ∧ Aside0 (Kd.R (Kd.int .u64) 30 wc w.heap.size (fun k_ => some k_ ≠ (v277 : Value).ownBlock) v274 t273) ∧ Aside0 (Kd.R (Kd.int .u64) 30 wc w.heap.size (fun k_ => some k_ ≠ (v274 : Value).ownBlock) v277 t276) ∧ Aside0 (Below w.heap.size w wc))
                                case first =>
                                  have H := HC74.out
                                  clear HC74
                                  by_cases c79 : (t273.length : Int) = t238
                                  · rw [if_pos c79] at H
                                    have c79b0 : ((t273.length : Int) == t238) = true := beq_iff_eq.mpr c79
                                    have c79b1 : ((t273.length : Int) != t238) = false := bne_eq_false_iff_eq.mpr c79
                                    clear c79
                                    (first | rw [c79b0] | (simp only [i64_w, i32_w]; rw [c79b0]) | skip)
                                    have H' := Aside0.mk H
                                    clear H
                                    obtain ⟨Ao80, co80, eo80⟩ := Kd.R_slice HO275.out
                                    subst eo80
                                    obtain ⟨Ao81, co81, eo81⟩ := Kd.R_slice HO278.out
                                    subst eo81
                                    go_wp2
                                    go_meet
                                    case rel => exact ⟨_, (((t276.length : Int) != t238)), (by first | rfl | (simp; done) | (simp [*]; done)), H', ⟨by have := HJ8.out; have := HK2.out; have := HK3.out; have := HK4.out; first | omega | exact Nat.le_refl _⟩, ⟨by (with_reducible repeat (first | apply Kd.R_alloc | apply Kd.R_drewN | apply Kd.R_drew)); exact Kd.R_mono HO_3.out (fun _ hk => by first | exact hk.2 | trivial)⟩, ⟨by (with_reducible repeat (first | apply Kd.R_alloc | apply Kd.R_drewN | apply Kd.R_drew)); exact Kd.R_mono HO_10.out (fun _ hk => by first | exact hk.1 | trivial)⟩, ⟨by (with_reducible repeat (first | apply Kd.R_alloc | apply Kd.R_drewN | apply Kd.R_drew)); exact Kd.R_mono HO275.out (fun _ hk => by first | exact hk.2 | trivial)⟩, ⟨by (with_reducible repeat (first | apply Kd.R_alloc | apply Kd.R_drewN | apply Kd.R_drew)); exact Kd.R_mono HO278.out (fun _ hk => by first | exact hk.2 | trivial)⟩, ⟨by repeat (first | (with_reducible first | exact HB.out | apply below_alloc | apply pw_below_drewN | apply below_drew1) | exact HB.out)⟩⟩
                                  · rw [if_neg c79] at H
                                    have c79b0 : ((t273.length : Int) == t238) = false := beq_eq_false_iff_ne.mpr c79
                                    have c79b1 : ((t273.length : Int) != t238) = true := bne_iff_ne.mpr c79
                                    (first | rw [c79b0] | (simp only [i64_w, i32_w]; rw [c79b0]) | skip)
                                    have H' := Aside0.mk H
                                    clear H
                                    obtain ⟨Ao82, co82, eo82⟩ := Kd.R_slice HO275.out
                                    subst eo82
                                    go_wp2
                                    go_meet
                                    case rel => exact ⟨_, (true), (by first | rfl | (simp; done) | (simp [*]; done)), H', ⟨by have := HJ8.out; have := HK2.out; have := HK3.out; have := HK4.out; first | omega | exact Nat.le_refl _⟩, ⟨by (with_reducible repeat (first | apply Kd.R_alloc | apply Kd.R_drewN | apply Kd.R_drew)); exact Kd.R_mono HO_3.out (fun _ hk => by first | exact hk.2 | trivial)⟩, ⟨by (with_reducible repeat (first | apply Kd.R_alloc | apply Kd.R_drewN | apply Kd.R_drew)); exact Kd.R_mono HO_10.out (fun _ hk => by first | exact hk.1 | trivial)⟩, ⟨by (with_reducible repeat (first | apply Kd.R_alloc | apply Kd.R_drewN | apply Kd.R_drew)); exact Kd.R_mono HO275.out (fun _ hk => by first | exact hk.2 | trivial)⟩, ⟨by (with_reducible repeat (first | apply Kd.R_alloc | apply Kd.R_drewN | apply Kd.R_drew)); exact Kd.R_mono HO278.out (fun _ hk => by first | exact hk.2 | trivial)⟩, ⟨by repeat (first | (with_reducible first | exact HB.out | apply below_alloc | apply pw_below_drewN | apply below_drew1) | exact HB.out)⟩⟩
                                case rest =>
                                  clear HC74
                                  try clear c1
                                  try clear c2
                                  try clear p2
                                  try clear q2
                                  try clear hx2
                                  try clear c3
                                  try clear c4
                                  try clear c5
                                  try clear c6
                                  try clear c6b0
                                  try clear c6b1
                                  try clear p6
                                  try clear c7
                                  try clear c7b0
                                  try clear c7b1
                                  try clear c9
                                  try clear c10
                                  try clear c11
                                  try clear c12
                                  try clear c14
                                  try clear c14b0
                                  try clear c14b1
                                  try clear c15
                                  try clear c15b0
                                  try clear c15b1
                                  try clear c20
                                  try clear c20b0
                                  try clear c25
                                  try clear c25b0
                                  try clear p25
                                  try clear q25
                                  try clear hx25
                                  try clear p26
                                  try clear q26
                                  try clear hx26
                                  try clear c37
                                  try clear c45
                                  try clear c45b0
                                  try clear c46
                                  try clear c46b0
                                  try clear c47
                                  try clear c47b0
                                  try clear c48
                                  try clear c48b0
                                  try clear c53
                                  try clear c53b0
                                  try clear c62
                                  try clear c62b0
                                  try clear c63
                                  try clear c63b0
                                  try clear c64
                                  try clear c64b0
                                  try clear c64b1
                                  try clear p64
                                  try clear c65
                                  try clear c65b0
                                  try clear c66
                                  try clear c69
                                  try clear c79
                                  try clear c79b0
                                  try clear c79b1
                                  try clear hx255_0
                                  try clear hx259_0
                                  try clear hx266_0
                                  try clear p2
                                  try clear p25
                                  try clear p255
                                  try clear p259
                                  try clear p266
                                  try clear p6
                                  try clear q2
                                  try clear q25
                                  try clear q255
                                  try clear q259
                                  try clear q266
                                  obtain ⟨kq, x139_73, rfl, HA, HJ73, HO_3, HO_10, HO_13, HO_14, HB⟩ := hcut
                                  cases kq with
                                  | zero => exact absurd HA.out (by simp [laws_FnNums.j4])
                                  | succ kj73 =>
                                    have H := HA.out
                                    clear HA
                                    simp only [laws_FnNums.j4] at H
                                    by_cases c83 : x139_73 = true
                                    · subst c83
                                      have H1 : (some false) = some r := by rw [if_pos rfl] at H; exact H
                                      clear H
                                      have H := H1
                                      clear H1
                                      exact absurd ((Option.some.inj H).trans HT_.out) (by decide)
                                    · replace c83 := Bool.eq_false_iff.mpr c83
                                      subst c83
                                      have H1 : ((impl_NumsAdd.f kj73 t273 t276).bind fun t279 => ((impl_NumsMin.f kj73 t273 t276).bind fun t282 => ((impl_NumsLess.f kj73 t273 t276).bind fun t285 => (laws_FnNums.l3 kj73 t237 x7_2 x10_4 t273 t279 t282 t285 0)))) = some r := by rw [if_neg (show ¬ (false = true) by decide)] at H; exact H
                                      clear H
                                      have H := H1
                                      clear H1
                                      replace H := Option.bind_eq_some_iff.mp H
                                      obtain ⟨t279, A840, H⟩ := H
                                      replace H : ((impl_NumsMin.f kj73 t273 t276).bind fun t282 => ((impl_NumsLess.f kj73 t273 t276).bind fun t285 => (laws_FnNums.l3 kj73 t237 x7_2 x10_4 t273 t279 t282 t285 0))) = some r := H
                                      have A84 := Aside0.mk A840
                                      clear A840
                                      replace H := Option.bind_eq_some_iff.mp H
                                      obtain ⟨t282, A850, H⟩ := H
                                      replace H : ((impl_NumsLess.f kj73 t273 t276).bind fun t285 => (laws_FnNums.l3 kj73 t237 x7_2 x10_4 t273 t279 t282 t285 0)) = some r := H
                                      have A85 := Aside0.mk A850
                                      clear A850
                                      replace H := Option.bind_eq_some_iff.mp H
                                      obtain ⟨t285, A860, H⟩ := H
                                      replace H : (laws_FnNums.l3 kj73 t237 x7_2 x10_4 t273 t279 t282 t285 0) = some r := H
                                      have A86 := Aside0.mk A860
                                      clear A860
                                      have H' := Aside0.mk H
                                      clear H
                                      obtain ⟨Ao87, co87, eo87⟩ := Kd.R_slice HO_13.out
                                      subst eo87
                                      obtain ⟨Ao88, co88, eo88⟩ := Kd.R_slice HO_14.out
                                      subst eo88
                                      go_wp2_with (first | ((with_reducible refine gate_callee (f := 13) rfl ?_); refine goesL_ (some 142) rfl rfl Try.func13 (by kernel_rfl) rfl #[.slice Ao87 t273.length co87, .slice Ao88 t276.length co88] rfl (by (try simp only [List.map_toArray, List.map_cons, List.map_nil]); first | done | rfl | (simp only [List.length_drop, List.length_take]; rfl)) ?_; (with_reducible refine (impl_NumsAdd.calls kj73 _ _ t273 _ _ t276 t279 _ ?side1 ?side2 ?side3 ?side4 A84.out).mono ?_); (case side1 => repeat (first | exact (Kd.R_reads' HO_13.out).2.2 | (with_reducible refine Kd.C_alloc ?_ _) | (with_reducible refine Kd.C_drewN ?_ _) | (with_reducible refine Kd.C_drew ?_))); (case side2 => exact (Kd.R_reads' HO_13.out).2.1); (case side3 => repeat (first | exact (Kd.R_reads' HO_14.out).2.2 | (with_reducible refine Kd.C_alloc ?_ _) | (with_reducible refine Kd.C_drewN ?_ _) | (with_reducible refine Kd.C_drew ?_))); (case side4 => exact (Kd.R_reads' HO_14.out).2.1); rintro e w89 ⟨v280, rfl, ho0, hb⟩; refine ⟨_, rfl, ?_⟩; have n0_ := Aside0.mk (Kd.R_below (by (with_reducible repeat (first | apply Kd.R_alloc | apply Kd.R_drewN | apply Kd.R_drew)); exact HO_3.out) hb); have n1_ := Aside0.mk (Kd.R_below (by (with_reducible repeat (first | apply Kd.R_alloc | apply Kd.R_drewN | apply Kd.R_drew)); exact HO_10.out) hb); have n2_ := Aside0.mk (Kd.R_elder' (by (with_reducible repeat (first | apply Kd.R_alloc | apply Kd.R_drewN | apply Kd.R_drew)); exact HO_13.out) (Kd.R_base ho0) hb); have n3_ := Aside0.mk (Kd.R_elder' (by (with_reducible repeat (first | apply Kd.R_alloc | apply Kd.R_drewN | apply Kd.R_drew)); exact HO_14.out) (Kd.R_base ho0) hb); have n4_ := Aside0.mk (Kd.R_lower (Kd.R_new' (Kd.R_new' ho0 (Kd.R_lt (by (with_reducible repeat (first | apply Kd.R_alloc | apply Kd.R_drewN | apply Kd.R_drew)); exact HO_13.out))) (Kd.R_lt (by (with_reducible repeat (first | apply Kd.R_alloc | apply Kd.R_drewN | apply Kd.R_drew)); exact HO_14.out))) (below_size (by repeat (first | (with_reducible first | exact HB.out | apply below_alloc | apply pw_below_drewN | apply below_drew1) | exact HB.out)))); have n5_ := Aside0.mk (below_step (by repeat (first | (with_reducible first | exact HB.out | apply below_alloc | apply pw_below_drewN | apply below_drew1) | exact HB.out)) hb); clear HO_3; clear HO_10; clear HO_13; clear HO_14; clear HB; have HO_3 := n0_; have HO_10 := n1_; have HO_13 := n2_; have HO_14 := n3_; have HO281 := n4_; have HB := n5_; clear n0_ n1_ n2_ n3_ n4_ n5_; (try clear hb); (try clear hb2); (try clear hk); (try clear hi); (try clear ho0)) | ((with_reducible refine gate_callee (f := 14) rfl ?_); refine goesL_ (some 145) rfl rfl Try.func14 (by kernel_rfl) rfl #[.slice Ao87 t273.length co87, .slice Ao88 t276.length co88] rfl (by (try simp only [List.map_toArray, List.map_cons, List.map_nil]); first | done | rfl | (simp only [List.length_drop, List.length_take]; rfl)) ?_; (with_reducible refine (impl_NumsMin.calls kj73 _ _ t273 _ _ t276 t282 _ ?side1 ?side2 ?side3 ?side4 A85.out).mono ?_); (case side1 => repeat (first | exact (Kd.R_reads' HO_13.out).2.2 | (with_reducible refine Kd.C_alloc ?_ _) | (with_reducible refine Kd.C_drewN ?_ _) | (with_reducible refine Kd.C_drew ?_))); (case side2 => exact (Kd.R_reads' HO_13.out).2.1); (case side3 => repeat (first | exact (Kd.R_reads' HO_14.out).2.2 | (with_reducible refine Kd.C_alloc ?_ _) | (with_reducible refine Kd.C_drewN ?_ _) | (with_reducible refine Kd.C_drew ?_))); (case side4 => exact (Kd.R_reads' HO_14.out).2.1); rintro e w90 ⟨v283, rfl, ho0, hb⟩; refine ⟨_, rfl, ?_⟩; have n0_ := Aside0.mk (Kd.R_below (by (with_reducible repeat (first | apply Kd.R_alloc | apply Kd.R_drewN | apply Kd.R_drew)); exact HO_3.out) hb); have n1_ := Aside0.mk (Kd.R_below (by (with_reducible repeat (first | apply Kd.R_alloc | apply Kd.R_drewN | apply Kd.R_drew)); exact HO_10.out) hb); have n2_ := Aside0.mk (Kd.R_elder' (by (with_reducible repeat (first | apply Kd.R_alloc | apply Kd.R_drewN | apply Kd.R_drew)); exact HO_13.out) (Kd.R_base ho0) hb); have n3_ := Aside0.mk (Kd.R_elder' (by (with_reducible repeat (first | apply Kd.R_alloc | apply Kd.R_drewN | apply Kd.R_drew)); exact HO_14.out) (Kd.R_base ho0) hb); have n4_ := Aside0.mk (Kd.R_elder' (by (with_reducible repeat (first | apply Kd.R_alloc | apply Kd.R_drewN | apply Kd.R_drew)); exact HO281.out) (Kd.R_base ho0) hb); have n5_ := Aside0.mk (Kd.R_lower (Kd.R_new' (Kd.R_new' (Kd.R_new' ho0 (Kd.R_lt (by (with_reducible repeat (first | apply Kd.R_alloc | apply Kd.R_drewN | apply Kd.R_drew)); exact HO_13.out))) (Kd.R_lt (by (with_reducible repeat (first | apply Kd.R_alloc | apply Kd.R_drewN | apply Kd.R_drew)); exact HO_14.out))) (Kd.R_lt (by (with_reducible repeat (first | apply Kd.R_alloc | apply Kd.R_drewN | apply Kd.R_drew)); exact HO281.out))) (below_size (by repeat (first | (with_reducible first | exact HB.out | apply below_alloc | apply pw_below_drewN | apply below_drew1) | exact HB.out)))); have n6_ := Aside0.mk (below_step (by repeat (first | (with_reducible first | exact HB.out | apply below_alloc | apply pw_below_drewN | apply below_drew1) | exact HB.out)) hb); clear HO_3; clear HO_10; clear HO_13; clear HO_14; clear HO281; clear HB; have HO_3 := n0_; have HO_10 := n1_; have HO_13 := n2_; have HO_14 := n3_; have HO281 := n4_; have HO284 := n5_; have HB := n6_; clear n0_ n1_ n2_ n3_ n4_ n5_ n6_; (try clear hb); (try clear hb2); (try clear hk); (try clear hi); (try clear ho0)) | ((with_reducible refine gate_callee (f := 15) rfl ?_); refine goesL_ (some 148) rfl rfl Try.func15 (by kernel_rfl) rfl #[.slice Ao87 t273.length co87, .slice Ao88 t276.length co88] rfl (by (try simp only [List.map_toArray, List.map_cons, List.map_nil]); first | done | rfl | (simp only [List.length_drop, List.length_take]; rfl)) ?_; (with_reducible refine (impl_NumsLess.calls kj73 _ _ t273 _ _ t276 t285 _ ?side1 ?side2 ?side3 ?side4 A86.out).mono ?_); (case side1 => repeat (first | exact (Kd.R_reads' HO_13.out).2.2 | (with_reducible refine Kd.C_alloc ?_ _) | (with_reducible refine Kd.C_drewN ?_ _) | (with_reducible refine Kd.C_drew ?_))); (case side2 => exact (Kd.R_reads' HO_13.out).2.1); (case side3 => repeat (first | exact (Kd.R_reads' HO_14.out).2.2 | (with_reducible refine Kd.C_alloc ?_ _) | (with_reducible refine Kd.C_drewN ?_ _) | (with_reducible refine Kd.C_drew ?_))); (case side4 => exact (Kd.R_reads' HO_14.out).2.1); rintro e w' ⟨rfl, ⟨nd, rfl⟩⟩; refine ⟨_, rfl, ?_⟩))
                                      go_loopg [18] kj73 (fun kq v18 w' => ∃ (x18_6 : Int), v18 = .int .i64 x18_6 ∧ Aside0 (laws_FnNums.l3 kq t237 x7_2 x10_4 t273 t279 t282 t285 x18_6 = some r) ∧ Aside0 (kq ≤ kj73) ∧ Aside0 (Kd.R (Kd.int .i64) 3 w' w.heap.size (fun k_ => some k_ ≠ ((.slice Ao77 x10_4.length co77) : Value).ownBlock) (.slice Ao59 t237.length co59) t237) ∧ Aside0 (Kd.R (Kd.int .i64) 3 w' w.heap.size (fun k_ => some k_ ≠ ((.slice Ao59 t237.length co59) : Value).ownBlock) (.slice Ao77 x10_4.length co77) x10_4) ∧ Aside0 (Kd.R (Kd.int .u64) 30 w' w.heap.size (fun k_ => some k_ ≠ (v280 : Value).ownBlock ∧ some k_ ≠ (v283 : Value).ownBlock) (.slice Ao87 t273.length co87) t273) ∧ Aside0 (Kd.R (Kd.int .u64) 30 w' w.heap.size (fun k_ => some k_ ≠ ((.slice Ao87 t273.length co87) : Value).ownBlock ∧ some k_ ≠ (v283 : Value).ownBlock) v280 t279) ∧ Aside0 (Kd.R (Kd.int .u64) 30 w' w.heap.size (fun k_ => some k_ ≠ ((.slice Ao87 t273.length co87) : Value).ownBlock ∧ some k_ ≠ (v280 : Value).ownBlock) v283 t282) ∧ Aside0 (Below w.heap.size w w'))
                                      case atStart => exact ⟨(0), (by first | rfl | (simp; done) | (simp [*]; done)), H', ⟨Nat.le_refl _⟩, ⟨by (with_reducible repeat (first | apply Kd.R_alloc | apply Kd.R_drewN | apply Kd.R_drew)); exact HO_3.out⟩, ⟨by (with_reducible repeat (first | apply Kd.R_alloc | apply Kd.R_drewN | apply Kd.R_drew)); exact HO_10.out⟩, ⟨by (with_reducible repeat (first | apply Kd.R_alloc | apply Kd.R_drewN | apply Kd.R_drew)); exact Kd.R_mono HO_13.out (fun _ hk => ⟨hk.1.2, hk.2⟩)⟩, ⟨by (with_reducible repeat (first | apply Kd.R_alloc | apply Kd.R_drewN | apply Kd.R_drew)); exact Kd.R_mono HO281.out (fun _ hk => ⟨hk.1.1.2, hk.2⟩)⟩, ⟨by (with_reducible repeat (first | apply Kd.R_alloc | apply Kd.R_drewN | apply Kd.R_drew)); exact Kd.R_mono HO284.out (fun _ hk => ⟨hk.1.1.2, hk.2⟩)⟩, ⟨by repeat (first | (with_reducible first | exact HB.out | apply below_alloc | apply pw_below_drewN | apply below_drew1) | exact HB.out)⟩⟩
                                      case round =>
                                        clear H'
                                        try clear c1
                                        try clear c2
                                        try clear p2
                                        try clear q2
                                        try clear hx2
                                        try clear c3
                                        try clear c4
                                        try clear c5
                                        try clear c6
                                        try clear c6b0
                                        try clear c6b1
                                        try clear p6
                                        try clear c7
                                        try clear c7b0
                                        try clear c7b1
                                        try clear c8
                                        try clear c9
                                        try clear c10
                                        try clear c11
                                        try clear c12
                                        try clear c13
                                        try clear c14
                                        try clear c14b0
                                        try clear c14b1
                                        try clear c15
                                        try clear c15b0
                                        try clear c15b1
                                        try clear c20
                                        try clear c20b0
                                        try clear c25
                                        try clear c25b0
                                        try clear p25
                                        try clear q25
                                        try clear hx25
                                        try clear p26
                                        try clear q26
                                        try clear hx26
                                        try clear c37
                                        try clear c45
                                        try clear c45b0
                                        try clear c46
                                        try clear c46b0
                                        try clear c47
                                        try clear c47b0
                                        try clear c48
                                        try clear c48b0
                                        try clear c53
                                        try clear c53b0
                                        try clear c62
                                        try clear c62b0
                                        try clear c63
                                        try clear c63b0
                                        try clear c64
                                        try clear c64b0
                                        try clear c64b1
                                        try clear p64
                                        try clear c65
                                        try clear c65b0
                                        try clear c66
                                        try clear c69
                                        try clear c79
                                        try clear c79b0
                                        try clear c79b1
                                        try clear c83
                                        try clear hx255_0
                                        try clear hx259_0
                                        try clear hx266_0
                                        try clear p2
                                        try clear p25
                                        try clear p255
                                        try clear p259
                                        try clear p26
                                        try clear p266
                                        try clear p6
                                        try clear p64
                                        try clear q2
                                        try clear q25
                                        try clear q255
                                        try clear q259
                                        try clear q26
                                        try clear q266
                                        obtain ⟨x18_6, rfl, HA, HK6, HO_3, HO_10, HO_13, HO_15, HO_16, HB⟩ := hrel
                                        cases gk with
                                        | zero => exact absurd HA.out (by simp [laws_FnNums.l3])
                                        | succ k6 =>
                                          have H := HA.out
                                          clear HA
                                          simp only [laws_FnNums.l3] at H
                                          by_cases c91 : x18_6 < 64
                                          · rw [if_pos c91] at H
                                            have c91b0 : decide (x18_6 < 64) = true := decide_eq_true c91
                                            clear c91
                                            have HC92 := Aside0.mk H
                                            clear H
                                            go_upto_if 156 with (fail)
                                            go_cut [19] (fun v19 wc => ∃ (kq : Nat) (x19_91 : Int), v19 = .int .i64 x19_91 ∧ Aside0 (laws_FnNums.j6 kq t237 x7_2 x10_4 t273 t279 t282 t285 x18_6 x19_91 0 = some r) ∧ Aside0 (kq ≤ k6) ∧ Aside0 (Kd.R (Kd.int .i64) 3 wc w.heap.size (fun k_ => some k_ ≠ ((.slice Ao77 x10_4.length co77) : Value).ownBlock) (.slice Ao59 t237.length co59) t237) ∧ Aside0 (Kd.R (Kd.int .i64) 3 wc w.heap.size (fun k_ => some k_ ≠ ((.slice Ao59 t237.length co59) : Value).ownBlock) (.slice Ao77 x10_4.length co77) x10_4) ∧ Aside0 (Kd.R (Kd.int .u64) 30 wc w.heap.size (fun k_ => some k_ ≠ (v280 : Value).ownBlock ∧ some k_ ≠ (v283 : Value).ownBlock) (.slice Ao87 t273.length co87) t273) ∧ Aside0 (Kd.R (Kd.int .u64) 30 wc w.heap.size (fun k_ => some k_ ≠ ((.slice Ao87 t273.length co87) : Value).ownBlock ∧ some k_ ≠ (v283 : Value).ownBlock) v280 t279) ∧ Aside0 (Kd.R (Kd.int .u64) 30 wc w.heap.size (fun k_ => some k_ ≠ ((.slice Ao87 t273.length co87) : Value).ownBlock ∧ some k_ ≠ (v280 : Value).ownBlock) v283 t282) ∧ Aside0 (Below w.heap.size w wc))
                                            case first =>
                                              have H := HC92.out
                                              clear HC92
                                              by_cases c93 : x18_6 < (t237.length : Int)
                                              · rw [if_pos c93] at H
                                                have c93b0 : decide (x18_6 < (t237.length : Int)) = true := decide_eq_true c93
                                                clear c93
                                                (first | rw [c93b0] | (simp only [i64_w, i32_w]; rw [c93b0]) | skip)
                                                by_cases c94 : 0 ≤ x18_6
                                                · rw [if_pos c94] at H
                                                  have c94b0 : decide (0 ≤ x18_6) = true := decide_eq_true c94
                                                  clear c94
                                                  have H' := Aside0.mk H
                                                  clear H
                                                  have p286 : 0 ≤ (x18_6 : Int) := of_decide_eq_true (by first | (with_reducible assumption) | assumption)
                                                  have q286 : x18_6 < (t237.length : Int) := of_decide_eq_true (by first | (with_reducible assumption) | assumption)
                                                  obtain ⟨Aq286, cq286, eq286⟩ := Kd.R_slice HO_3.out
                                                  first | subst eq286 | clear eq286
                                                  obtain ⟨ad286, e286, hx286_0⟩ := Kd.at_int (Kd.R_reads' HO_3.out).2.2 x18_6 p286 q286
                                                  cases e286
                                                  replace p286 := eq_true p286
                                                  replace q286 := eq_true q286
                                                  go_wp2
                                                  go_meet
                                                  case rel => exact ⟨_, (rd t237 x18_6), (by first | rfl | (simp; done) | (simp [*]; done)), H', ⟨by have := HJ8.out; have := HK2.out; have := HK3.out; have := HK4.out; have := HJ73.out; have := HK6.out; first | omega | exact Nat.le_refl _⟩, ⟨by (with_reducible repeat (first | apply Kd.R_alloc | apply Kd.R_drewN | apply Kd.R_drew)); exact HO_3.out⟩, ⟨by (with_reducible repeat (first | apply Kd.R_alloc | apply Kd.R_drewN | apply Kd.R_drew)); exact HO_10.out⟩, ⟨by (with_reducible repeat (first | apply Kd.R_alloc | apply Kd.R_drewN | apply Kd.R_drew)); exact HO_13.out⟩, ⟨by (with_reducible repeat (first | apply Kd.R_alloc | apply Kd.R_drewN | apply Kd.R_drew)); exact HO_15.out⟩, ⟨by (with_reducible repeat (first | apply Kd.R_alloc | apply Kd.R_drewN | apply Kd.R_drew)); exact HO_16.out⟩, ⟨by repeat (first | (with_reducible first | exact HB.out | apply below_alloc | apply pw_below_drewN | apply below_drew1) | exact HB.out)⟩⟩
                                                · rw [if_neg c94] at H
                                                  exact absurd H (by simp)
                                              · rw [if_neg c93] at H
                                                have c93b0 : decide (x18_6 < (t237.length : Int)) = false := decide_eq_false c93
                                                clear c93
                                                (first | rw [c93b0] | (simp only [i64_w, i32_w]; rw [c93b0]) | skip)
                                                have H' := Aside0.mk H
                                                clear H
                                                go_wp2
                                                go_meet
                                                case rel => exact ⟨_, (0), (by first | rfl | (simp; done) | (simp [*]; done)), H', ⟨by have := HJ8.out; have := HK2.out; have := HK3.out; have := HK4.out; have := HJ73.out; have := HK6.out; first | omega | exact Nat.le_refl _⟩, ⟨by (with_reducible repeat (first | apply Kd.R_alloc | apply Kd.R_drewN | apply Kd.R_drew)); exact HO_3.out⟩, ⟨by (with_reducible repeat (first | apply Kd.R_alloc | apply Kd.R_drewN | apply Kd.R_drew)); exact HO_10.out⟩, ⟨by (with_reducible repeat (first | apply Kd.R_alloc | apply Kd.R_drewN | apply Kd.R_drew)); exact HO_13.out⟩, ⟨by (with_reducible repeat (first | apply Kd.R_alloc | apply Kd.R_drewN | apply Kd.R_drew)); exact HO_15.out⟩, ⟨by (with_reducible repeat (first | apply Kd.R_alloc | apply Kd.R_drewN | apply Kd.R_drew)); exact HO_16.out⟩, ⟨by repeat (first | (with_reducible first | exact HB.out | apply below_alloc | apply pw_below_drewN | apply below_drew1) | exact HB.out)⟩⟩
                                            case rest =>
                                              clear HC92
                                              try clear c1
                                              try clear c2
                                              try clear p2
                                              try clear q2
                                              try clear hx2
                                              try clear c3
                                              try clear c4
                                              try clear c5
                                              try clear c6
                                              try clear c6b0
                                              try clear c6b1
                                              try clear p6
                                              try clear c7
                                              try clear c7b0
                                              try clear c7b1
                                              try clear c8
                                              try clear c9
                                              try clear c10
                                              try clear c11
                                              try clear c12
                                              try clear c13
                                              try clear c14
                                              try clear c14b0
                                              try clear c14b1
                                              try clear c15
                                              try clear c15b0
                                              try clear c15b1
                                              try clear c20
                                              try clear c20b0
                                              try clear c25
                                              try clear c25b0
                                              try clear p25
                                              try clear q25
                                              try clear hx25
                                              try clear p26
                                              try clear q26
                                              try clear hx26
                                              try clear p28
                                              try clear q28
                                              try clear hx28
                                              try clear c37
                                              try clear c45
                                              try clear c45b0
                                              try clear c46
                                              try clear c46b0
                                              try clear c47
                                              try clear c47b0
                                              try clear c48
                                              try clear c48b0
                                              try clear c53
                                              try clear c53b0
                                              try clear c62
                                              try clear c62b0
                                              try clear c63
                                              try clear c63b0
                                              try clear c64
                                              try clear c64b0
                                              try clear c64b1
                                              try clear p64
                                              try clear c65
                                              try clear c65b0
                                              try clear c66
                                              try clear c69
                                              try clear c79
                                              try clear c79b0
                                              try clear c79b1
                                              try clear c83
                                              try clear c91
                                              try clear c91b0
                                              try clear c93
                                              try clear c93b0
                                              try clear c94
                                              try clear c94b0
                                              try clear hx255_0
                                              try clear hx259_0
                                              try clear hx266_0
                                              try clear hx286_0
                                              try clear p2
                                              try clear p25
                                              try clear p255
                                              try clear p259
                                              try clear p26
                                              try clear p266
                                              try clear p286
                                              try clear p6
                                              try clear p64
                                              try clear q2
                                              try clear q25
                                              try clear q255
                                              try clear q259
                                              try clear q26
                                              try clear q266
                                              try clear q286
                                              obtain ⟨kq, x19_91, rfl, HA, HJ91, HO_3, HO_10, HO_13, HO_15, HO_16, HB⟩ := hcut
                                              cases kq with
                                              | zero => exact absurd HA.out (by simp [laws_FnNums.j6])
                                              | succ kj91 =>
                                                have H := HA.out
                                                clear HA
                                                simp only [laws_FnNums.j6] at H
                                                have HC95 := Aside0.mk H
                                                clear H
                                                go_upto_if 164 with (fail)
                                                go_cut [20] (fun v20 wc => ∃ (kq : Nat) (x20_94 : Int), v20 = .int .i64 x20_94 ∧ Aside0 (laws_FnNums.j7 kq t237 x7_2 x10_4 t273 t279 t282 t285 x18_6 x19_91 x20_94 = some r) ∧ Aside0 (kq ≤ kj91) ∧ Aside0 (Kd.R (Kd.int .i64) 3 wc w.heap.size (fun k_ => some k_ ≠ ((.slice Ao77 x10_4.length co77) : Value).ownBlock) (.slice Ao59 t237.length co59) t237) ∧ Aside0 (Kd.R (Kd.int .i64) 3 wc w.heap.size (fun k_ => some k_ ≠ ((.slice Ao59 t237.length co59) : Value).ownBlock) (.slice Ao77 x10_4.length co77) x10_4) ∧ Aside0 (Kd.R (Kd.int .u64) 30 wc w.heap.size (fun k_ => some k_ ≠ (v280 : Value).ownBlock ∧ some k_ ≠ (v283 : Value).ownBlock) (.slice Ao87 t273.length co87) t273) ∧ Aside0 (Kd.R (Kd.int .u64) 30 wc w.heap.size (fun k_ => some k_ ≠ ((.slice Ao87 t273.length co87) : Value).ownBlock ∧ some k_ ≠ (v283 : Value).ownBlock) v280 t279) ∧ Aside0 (Kd.R (Kd.int .u64) 30 wc w.heap.size (fun k_ => some k_ ≠ ((.slice Ao87 t273.length co87) : Value).ownBlock ∧ some k_ ≠ (v280 : Value).ownBlock) v283 t282) ∧ Aside0 (Below w.heap.size w wc))
                                                case first =>
                                                  have H := HC95.out
                                                  clear HC95
                                                  by_cases c96 : x18_6 < (x10_4.length : Int)
                                                  · rw [if_pos c96] at H
                                                    have c96b0 : decide (x18_6 < (x10_4.length : Int)) = true := decide_eq_true c96
                                                    clear c96
                                                    (first | rw [c96b0] | (simp only [i64_w, i32_w]; rw [c96b0]) | skip)
                                                    by_cases c97 : 0 ≤ x18_6
                                                    · rw [if_pos c97] at H
                                                      have c97b0 : decide (0 ≤ x18_6) = true := decide_eq_true c97
                                                      clear c97
                                                      have H' := Aside0.mk H
                                                      clear H
                                                      have p287 : 0 ≤ (x18_6 : Int) := of_decide_eq_true (by first | (with_reducible assumption) | assumption)
                                                      have q287 : x18_6 < (x10_4.length : Int) := of_decide_eq_true (by first | (with_reducible assumption) | assumption)
                                                      obtain ⟨Aq287, cq287, eq287⟩ := Kd.R_slice HO_10.out
                                                      first | subst eq287 | clear eq287
                                                      obtain ⟨ad287, e287, hx287_0⟩ := Kd.at_int (Kd.R_reads' HO_10.out).2.2 x18_6 p287 q287
                                                      cases e287
                                                      replace p287 := eq_true p287
                                                      replace q287 := eq_true q287
                                                      go_wp2
                                                      go_meet
                                                      case rel => exact ⟨_, (rd x10_4 x18_6), (by first | rfl | (simp; done) | (simp [*]; done)), H', ⟨by have := HJ8.out; have := HK2.out; have := HK3.out; have := HK4.out; have := HJ73.out; have := HK6.out; have := HJ91.out; first | omega | exact Nat.le_refl _⟩, ⟨by (with_reducible repeat (first | apply Kd.R_alloc | apply Kd.R_drewN | apply Kd.R_drew)); exact HO_3.out⟩, ⟨by (with_reducible repeat (first | apply Kd.R_alloc | apply Kd.R_drewN | apply Kd.R_drew)); exact HO_10.out⟩, ⟨by (with_reducible repeat (first | apply Kd.R_alloc | apply Kd.R_drewN | apply Kd.R_drew)); exact HO_13.out⟩, ⟨by (with_reducible repeat (first | apply Kd.R_alloc | apply Kd.R_drewN | apply Kd.R_drew)); exact HO_15.out⟩, ⟨by (with_reducible repeat (first | apply Kd.R_alloc | apply Kd.R_drewN | apply Kd.R_drew)); exact HO_16.out⟩, ⟨by repeat (first | (with_reducible first | exact HB.out | apply below_alloc | apply pw_below_drewN | apply below_drew1) | exact HB.out)⟩⟩
                                                    · rw [if_neg c97] at H
                                                      exact absurd H (by simp)
                                                  · rw [if_neg c96] at H
                                                    have c96b0 : decide (x18_6 < (x10_4.length : Int)) = false := decide_eq_false c96
                                                    clear c96
                                                    (first | rw [c96b0] | (simp only [i64_w, i32_w]; rw [c96b0]) | skip)
                                                    have H' := Aside0.mk H
                                                    clear H
                                                    go_wp2
                                                    go_meet
                                                    case rel => exact ⟨_, (0), (by first | rfl | (simp; done) | (simp [*]; done)), H', ⟨by have := HJ8.out; have := HK2.out; have := HK3.out; have := HK4.out; have := HJ73.out; have := HK6.out; have := HJ91.out; first | omega | exact Nat.le_refl _⟩, ⟨by (with_reducible repeat (first | apply Kd.R_alloc | apply Kd.R_drewN | apply Kd.R_drew)); exact HO_3.out⟩, ⟨by (with_reducible repeat (first | apply Kd.R_alloc | apply Kd.R_drewN | apply Kd.R_drew)); exact HO_10.out⟩, ⟨by (with_reducible repeat (first | apply Kd.R_alloc | apply Kd.R_drewN | apply Kd.R_drew)); exact HO_13.out⟩, ⟨by (with_reducible repeat (first | apply Kd.R_alloc | apply Kd.R_drewN | apply Kd.R_drew)); exact HO_15.out⟩, ⟨by (with_reducible repeat (first | apply Kd.R_alloc | apply Kd.R_drewN | apply Kd.R_drew)); exact HO_16.out⟩, ⟨by repeat (first | (with_reducible first | exact HB.out | apply below_alloc | apply pw_below_drewN | apply below_drew1) | exact HB.out)⟩⟩
                                                case rest =>
                                                  clear HC95
                                                  try clear c1
                                                  try clear c2
                                                  try clear p2
                                                  try clear q2
                                                  try clear hx2
                                                  try clear c3
                                                  try clear c4
                                                  try clear c5
                                                  try clear c6
                                                  try clear c6b0
                                                  try clear c6b1
                                                  try clear p6
                                                  try clear c7
                                                  try clear c7b0
                                                  try clear c7b1
                                                  try clear c8
                                                  try clear c9
                                                  try clear c10
                                                  try clear c11
                                                  try clear c12
                                                  try clear c13
                                                  try clear c14
                                                  try clear c14b0
                                                  try clear c14b1
                                                  try clear c15
                                                  try clear c15b0
                                                  try clear c15b1
                                                  try clear c20
                                                  try clear c20b0
                                                  try clear c25
                                                  try clear c25b0
                                                  try clear p25
                                                  try clear q25
                                                  try clear hx25
                                                  try clear p26
                                                  try clear q26
                                                  try clear hx26
                                                  try clear p28
                                                  try clear q28
                                                  try clear hx28
                                                  try clear c37
                                                  try clear c45
                                                  try clear c45b0
                                                  try clear c46
                                                  try clear c46b0
                                                  try clear c47
                                                  try clear c47b0
                                                  try clear c48
                                                  try clear c48b0
                                                  try clear c53
                                                  try clear c53b0
                                                  try clear c62
                                                  try clear c62b0
                                                  try clear c63
                                                  try clear c63b0
                                                  try clear c64
                                                  try clear c64b0
                                                  try clear c64b1
                                                  try clear p64
                                                  try clear c65
                                                  try clear c65b0
                                                  try clear c66
                                                  try clear c69
                                                  try clear c79
                                                  try clear c79b0
                                                  try clear c79b1
                                                  try clear c83
                                                  try clear c91
                                                  try clear c91b0
                                                  try clear c93
                                                  try clear c93b0
                                                  try clear c94
                                                  try clear c94b0
                                                  try clear c96
                                                  try clear c96b0
                                                  try clear c97
                                                  try clear c97b0
                                                  try clear hx255_0
                                                  try clear hx259_0
                                                  try clear hx266_0
                                                  try clear hx286_0
                                                  try clear hx287_0
                                                  try clear p2
                                                  try clear p25
                                                  try clear p255
                                                  try clear p259
                                                  try clear p26
                                                  try clear p266
                                                  try clear p28
                                                  try clear p286
                                                  try clear p287
                                                  try clear p6
                                                  try clear p64
                                                  try clear q2
                                                  try clear q25
                                                  try clear q255
                                                  try clear q259
                                                  try clear q26
                                                  try clear q266
                                                  try clear q28
                                                  try clear q286
                                                  try clear q287
                                                  obtain ⟨kq, x20_94, rfl, HA, HJ94, HO_3, HO_10, HO_13, HO_15, HO_16, HB⟩ := hcut
                                                  cases kq with
                                                  | zero => exact absurd HA.out (by simp [laws_FnNums.j7])
                                                  | succ kj94 =>
                                                    have H := HA.out
                                                    clear HA
                                                    simp only [laws_FnNums.j7] at H
                                                    obtain ⟨ji98, hji98⟩ : ∃ j_ : Int, (IntKind.u64.wrap (x18_6)) = j_ := ⟨_, rfl⟩
                                                    replace H : (if 0 ≤ (ji98) then ((impl_NumAt.f kj94 t273 x18_6).bind fun t288 => (if t288 = x19_91 then ((impl_NumAt.f kj94 t279 x18_6).bind fun t289 => (if x7_2 = 0 then (none) else (if t289 = (Int.tmod (wrap64 (x19_91 + x20_94)) x7_2) then ((impl_NumAt.f kj94 t282 x18_6).bind fun t290 => (if t290 = (mn x19_91 x20_94) then (if (((wrap64 (Go.bits .and .u64 (shr .u64 t285 (ji98)) 1)) == 1) != (decide (x19_91 < x20_94))) = true then (some false) else (laws_FnNums.l3 kj94 t237 x7_2 x10_4 t273 t279 t282 t285 (wrap64 (x18_6 + 1)))) else (some false))) else (some false)))) else (some false))) else (none)) = some r := by first | (rw [hji98] at H; exact H) | (simp only [hji98] at H ⊢; exact H)
                                                    by_cases c99 : 0 ≤ (ji98)
                                                    · rw [if_pos c99] at H
                                                      have c99b0 := eq_true c99
                                                      have c99b1 : decide (0 ≤ (ji98)) = true := decide_eq_true c99
                                                      clear c99
                                                      obtain ⟨ji100, hji100⟩ : ∃ j_ : Int, (shr .u64 t285 (ji98)) = j_ := ⟨_, rfl⟩
                                                      replace H : ((impl_NumAt.f kj94 t273 x18_6).bind fun t288 => (if t288 = x19_91 then ((impl_NumAt.f kj94 t279 x18_6).bind fun t289 => (if x7_2 = 0 then (none) else (if t289 = (Int.tmod (wrap64 (x19_91 + x20_94)) x7_2) then ((impl_NumAt.f kj94 t282 x18_6).bind fun t290 => (if t290 = (mn x19_91 x20_94) then (if (((wrap64 (Go.bits .and .u64 (ji100) 1)) == 1) != (decide (x19_91 < x20_94))) = true then (some false) else (laws_FnNums.l3 kj94 t237 x7_2 x10_4 t273 t279 t282 t285 (wrap64 (x18_6 + 1)))) else (some false))) else (some false)))) else (some false))) = some r := by first | (rw [hji100] at H; exact H) | (simp only [hji100] at H ⊢; exact H)
                                                      have hji100_ : (t285 / 2 ^ min (ji98).toNat 64) = ji100 := hji100
                                                      have hji100z : (ji98) ≤ 64 → (t285 / 2 ^ (ji98).toNat) = ji100 := shr_small hji100
                                                      replace H := Option.bind_eq_some_iff.mp H
                                                      obtain ⟨t288, A1010, H⟩ := H
                                                      replace H : (if t288 = x19_91 then ((impl_NumAt.f kj94 t279 x18_6).bind fun t289 => (if x7_2 = 0 then (none) else (if t289 = (Int.tmod (wrap64 (x19_91 + x20_94)) x7_2) then ((impl_NumAt.f kj94 t282 x18_6).bind fun t290 => (if t290 = (mn x19_91 x20_94) then (if (((wrap64 (Go.bits .and .u64 (ji100) 1)) == 1) != (decide (x19_91 < x20_94))) = true then (some false) else (laws_FnNums.l3 kj94 t237 x7_2 x10_4 t273 t279 t282 t285 (wrap64 (x18_6 + 1)))) else (some false))) else (some false)))) else (some false)) = some r := H
                                                      have A101 := Aside0.mk A1010
                                                      clear A1010
                                                      by_cases c102 : t288 = x19_91
                                                      · rw [if_pos c102] at H
                                                        have c102b0 : (t288 == x19_91) = true := beq_iff_eq.mpr c102
                                                        have c102b1 : (t288 != x19_91) = false := bne_eq_false_iff_eq.mpr c102
                                                        clear c102
                                                        replace H := Option.bind_eq_some_iff.mp H
                                                        obtain ⟨t289, A1030, H⟩ := H
                                                        replace H : (if x7_2 = 0 then (none) else (if t289 = (Int.tmod (wrap64 (x19_91 + x20_94)) x7_2) then ((impl_NumAt.f kj94 t282 x18_6).bind fun t290 => (if t290 = (mn x19_91 x20_94) then (if (((wrap64 (Go.bits .and .u64 (ji100) 1)) == 1) != (decide (x19_91 < x20_94))) = true then (some false) else (laws_FnNums.l3 kj94 t237 x7_2 x10_4 t273 t279 t282 t285 (wrap64 (x18_6 + 1)))) else (some false))) else (some false))) = some r := H
                                                        have A103 := Aside0.mk A1030
                                                        clear A1030
                                                        by_cases c104 : x7_2 = 0
                                                        · rw [if_pos c104] at H
                                                          exact absurd H (by simp)
                                                        · rw [if_neg c104] at H
                                                          have c104b0 : (x7_2 == 0) = false := beq_eq_false_iff_ne.mpr c104
                                                          have c104b1 : (x7_2 != 0) = true := bne_iff_ne.mpr c104
                                                          by_cases c105 : t289 = (Int.tmod (wrap64 (x19_91 + x20_94)) x7_2)
                                                          · rw [if_pos c105] at H
                                                            have c105b0 : (t289 == (Int.tmod (wrap64 (x19_91 + x20_94)) x7_2)) = true := beq_iff_eq.mpr c105
                                                            have c105b1 : (t289 != (Int.tmod (wrap64 (x19_91 + x20_94)) x7_2)) = false := bne_eq_false_iff_eq.mpr c105
                                                            clear c105
                                                            replace H := Option.bind_eq_some_iff.mp H
                                                            obtain ⟨t290, A1060, H⟩ := H
                                                            replace H : (if t290 = (mn x19_91 x20_94) then (if (((wrap64 (Go.bits .and .u64 (ji100) 1)) == 1) != (decide (x19_91 < x20_94))) = true then (some false) else (laws_FnNums.l3 kj94 t237 x7_2 x10_4 t273 t279 t282 t285 (wrap64 (x18_6 + 1)))) else (some false)) = some r := H
                                                            have A106 := Aside0.mk A1060
                                                            clear A1060
                                                            obtain ⟨ji107, hji107⟩ : ∃ j_ : Int, (mn x19_91 x20_94) = j_ := ⟨_, rfl⟩
                                                            replace H : (if t290 = (ji107) then (if (((wrap64 (Go.bits .and .u64 (ji100) 1)) == 1) != (decide (x19_91 < x20_94))) = true then (some false) else (laws_FnNums.l3 kj94 t237 x7_2 x10_4 t273 t279 t282 t285 (wrap64 (x18_6 + 1)))) else (some false)) = some r := by first | (rw [hji107] at H; exact H) | (simp only [hji107] at H ⊢; exact H)
                                                            (try rw [hji107] at A101)
                                                            (try rw [hji107] at A103)
                                                            (try rw [hji107] at A106)
                                                            have hji107_ : (if x20_94 < x19_91 then x20_94 else x19_91) = ji107 := hji107
                                                            by_cases c108 : t290 = (ji107)
                                                            · rw [if_pos c108] at H
                                                              have c108b0 : (t290 == (ji107)) = true := beq_iff_eq.mpr c108
                                                              have c108b1 : (t290 != (ji107)) = false := bne_eq_false_iff_eq.mpr c108
                                                              clear c108
                                                              by_cases c109 : (((wrap64 (Go.bits .and .u64 (ji100) 1)) == 1) != (decide (x19_91 < x20_94))) = true
                                                              · rw [if_pos c109] at H
                                                                have c109b0 : (((wrap64 (Go.bits .and .u64 (ji100) 1)) == 1) != (decide (x19_91 < x20_94))) = true := c109
                                                                (try (have c109b1 : decide (((wrap64 (Go.bits .and .u64 (ji100) 1)) == 1) = (decide (x19_91 < x20_94))) = false := by simpa using c109))
                                                                (try (have c109b2 : (((wrap64 (Go.bits .and .u64 (ji100) 1)) == 1) == (decide (x19_91 < x20_94))) = false := by simpa using c109))
                                                                (try (have c109b3 : ¬ (((wrap64 (Go.bits .and .u64 (ji100) 1)) == 1) = (decide (x19_91 < x20_94))) := by simpa using c109))
                                                                clear c109
                                                                exact absurd ((Option.some.inj H).trans HT_.out) (by decide)
                                                              · rw [if_neg c109] at H
                                                                have c109b0 : (((wrap64 (Go.bits .and .u64 (ji100) 1)) == 1) != (decide (x19_91 < x20_94))) = false := by simpa using c109
                                                                (try (have c109b1 : decide (((wrap64 (Go.bits .and .u64 (ji100) 1)) == 1) = (decide (x19_91 < x20_94))) = true := by simpa using c109))
                                                                (try (have c109b2 : (((wrap64 (Go.bits .and .u64 (ji100) 1)) == 1) == (decide (x19_91 < x20_94))) = true := by simpa using c109))
                                                                clear c109
                                                                have H' := Aside0.mk H
                                                                clear H
                                                                try go_wp2
                                                                have n0_ := Aside0.mk (Kd.R_drew HO_3.out)
                                                                have n1_ := Aside0.mk (Kd.R_drew HO_10.out)
                                                                have n2_ := Aside0.mk (Kd.R_drew HO_13.out)
                                                                have n3_ := Aside0.mk (Kd.R_drew HO_15.out)
                                                                have n4_ := Aside0.mk (Kd.R_drew HO_16.out)
                                                                have n5_ := Aside0.mk (below_drew1 HB.out)
                                                                clear HO_3
                                                                clear HO_10
                                                                clear HO_13
                                                                clear HO_15
                                                                clear HO_16
                                                                clear HB
                                                                have HO_3 := n0_
                                                                have HO_10 := n1_
                                                                have HO_13 := n2_
                                                                have HO_15 := n3_
                                                                have HO_16 := n4_
                                                                have HB := n5_
                                                                clear n0_ n1_ n2_ n3_ n4_ n5_
                                                                refine start_ (n := 33) (S := fun w' => True) (ds := []) #[false, false, false, false, false, false, false, false, false, false, false, false, false, false, false, false, false, false, false, false, false, false, false, false, false, false, false, false, false, false, false, false, false] (by kernel_rfl) rfl rfl trivial (fun hHeld => ?_); refine with_tabW laws_FnNums.tab41 laws_FnNums.bits41 (fun HT_ HW_ => ?_)
                                                                generalize wc.drew = w110 at HO_3 HO_10 HO_13 HO_15 HO_16 HB hHeld ⊢
                                                                refine pure_ (i := 0) (N := some 175) (v := ?_) (a' := ?_) #[true, false, false, false, false, false, false, false, false, false, false, false, false, false, false, false, false, false, false, false, false, false, false, false, false, false, false, false, false, false, false, false, false] rfl rfl (any_of HT_.out (by kernel_rfl)) (fun _ _ _ h => h) (Or.inl ⟨by rfl, ?_⟩) ?_ ?_
                                                                rotate_left
                                                                · intro w'
                                                                  go_simp
                                                                  with_reducible rfl
                                                                rotate_left
                                                                · simp only [Act.put, List.setIfInBounds_toArray, List.set_cons_zero, List.set_cons_succ, i64_w, i32_w]
                                                                  rfl
                                                                refine pure_ (i := 1) (N := some 176) (v := ?_) (a' := ?_) #[true, true, false, false, false, false, false, false, false, false, false, false, false, false, false, false, false, false, false, false, false, false, false, false, false, false, false, false, false, false, false, false, false] rfl rfl (any_of HT_.out (by kernel_rfl)) (fun _ _ _ h => h) (Or.inl ⟨by rfl, ?_⟩) ?_ ?_
                                                                rotate_left
                                                                · intro w'
                                                                  go_simp
                                                                  with_reducible rfl
                                                                rotate_left
                                                                · simp only [Act.put, List.setIfInBounds_toArray, List.set_cons_zero, List.set_cons_succ, i64_w, i32_w]
                                                                  rfl
                                                                refine pure_ (i := 3) (N := some 178) (v := ?_) (a' := ?_) #[true, true, false, true, false, false, false, false, false, false, false, false, false, false, false, false, false, false, false, false, false, false, false, false, false, false, false, false, false, false, false, false, false] rfl rfl (any_of HT_.out (by kernel_rfl)) (fun _ _ _ h => h) (Or.inl ⟨by rfl, ?_⟩) ?_ ?_
                                                                rotate_left
                                                                · intro w'
                                                                  go_simp
                                                                  with_reducible rfl
                                                                rotate_left
                                                                · simp only [Act.put, List.setIfInBounds_toArray, List.set_cons_zero, List.set_cons_succ, i64_w, i32_w]
                                                                  rfl
                                                                refine one_ (i := 2) (N := some 177) #[true, true, true, true, false, false, false, false, false, false, false, false, false, false, false, false, false, false, false, false, false, false, false, false, false, false, false, false, false, false, false, false, false] rfl rfl (one_of HT_.out (by kernel_rfl)) (by decide) (fun K hK => ?_)
                                                                refine goes_ Try.func16 (by kernel_rfl) rfl #[.slice Ao87 t273.length co87, .int .i64 x18_6] (by rfl) rfl rfl (by (try simp only [List.map_toArray, List.map_cons, List.map_nil]); first | done | rfl | (simp only [List.length_drop, List.length_take]; rfl)) ?_
                                                                with_reducible refine (impl_NumAt.calls kj94 _ _ t273 x18_6 t288 _ ?side1 ?side2 A101.out).mono ?_
                                                                (case side1 => repeat (first | exact (Kd.R_reads' HO_13.out).2.2 | (with_reducible refine Kd.C_alloc ?_ _) | (with_reducible refine Kd.C_drewN ?_ _) | (with_reducible refine Kd.C_drew ?_)))
                                                                (case side2 => exact (Kd.R_reads' HO_13.out).2.1)
                                                                rintro e w' ⟨rfl, ⟨nd, rfl⟩⟩
                                                                refine ⟨_, rfl, ?_⟩
                                                                obtain ⟨Ao111, co111, eo111⟩ := Kd.R_slice HO_15.out
                                                                (first | subst eo111 | (injection eo111 with f1_ f2_ f3_; have f4_ := f1_.symm; have f5_ := f3_.symm; clear f1_ f2_ f3_; subst f4_; subst f5_))
                                                                refine hK.out _ _ trivial (fun hHeld => ?_)
                                                                clear hK K
                                                                refine norm_ (a' := ?_) ?_ ?_
                                                                rotate_left
                                                                · show Act.put _ (some 177) _ = _
                                                                  simp only [Act.put, List.setIfInBounds_toArray, List.set_cons_zero, List.set_cons_succ, i64_w, i32_w]
                                                                  rfl
                                                                refine pure_ (i := 4) (N := some 179) (v := ?_) (a' := ?_) #[true, true, true, true, true, false, false, false, false, false, false, false, false, false, false, false, false, false, false, false, false, false, false, false, false, false, false, false, false, false, false, false, false] rfl rfl (any_of HT_.out (by kernel_rfl)) (fun _ _ _ h => h) (Or.inl ⟨by rfl, ?_⟩) ?_ ?_
                                                                rotate_left
                                                                · intro w'
                                                                  go_simp
                                                                  with_reducible rfl
                                                                rotate_left
                                                                · simp only [Act.put, List.setIfInBounds_toArray, List.set_cons_zero, List.set_cons_succ, i64_w, i32_w]
                                                                  rfl
                                                                refine pure_ (i := 5) (N := some 180) (v := ?_) (a' := ?_) #[true, true, true, true, true, true, false, false, false, false, false, false, false, false, false, false, false, false, false, false, false, false, false, false, false, false, false, false, false, false, false, false, false] rfl rfl (any_of HT_.out (by kernel_rfl)) (fun _ _ _ h => h) (Or.inl ⟨by rfl, ?_⟩) ?_ ?_
                                                                rotate_left
                                                                · intro w'
                                                                  go_simp
                                                                  with_reducible rfl
                                                                rotate_left
                                                                · simp only [Act.put, List.setIfInBounds_toArray, List.set_cons_zero, List.set_cons_succ, i64_w, i32_w]
                                                                  rfl
                                                                refine pure_ (i := 6) (N := some 181) (v := ?_) (a' := ?_) #[true, true, true, true, true, true, true, false, false, false, false, false, false, false, false, false, false, false, false, false, false, false, false, false, false, false, false, false, false, false, false, false, false] rfl rfl (any_of HT_.out (by kernel_rfl)) (fun _ _ _ h => h) (Or.inl ⟨by rfl, ?_⟩) ?_ ?_
                                                                rotate_left
                                                                · intro w'
                                                                  go_simp
                                                                  with_reducible rfl
                                                                rotate_left
                                                                · simp only [Act.put, List.setIfInBounds_toArray, List.set_cons_zero, List.set_cons_succ, i64_w, i32_w]
                                                                  rfl
                                                                refine pure_ (i := 7) (N := some 182) (v := ?_) (a' := ?_) #[true, true, true, true, true, true, true, true, false, false, false, false, false, false, false, false, false, false, false, false, false, false, false, false, false, false, false, false, false, false, false, false, false] rfl rfl (any_of HT_.out (by kernel_rfl)) (fun _ _ _ h => h) (Or.inl ⟨by rfl, ?_⟩) ?_ ?_
                                                                rotate_left
                                                                · intro w'
                                                                  go_simp
                                                                  with_reducible rfl
                                                                rotate_left
                                                                · simp only [Act.put, List.setIfInBounds_toArray, List.set_cons_zero, List.set_cons_succ, i64_w, i32_w]
                                                                  rfl
                                                                refine pure_ (i := 9) (N := some 184) (v := ?_) (a' := ?_) #[true, true, true, true, true, true, true, true, false, true, false, false, false, false, false, false, false, false, false, false, false, false, false, false, false, false, false, false, false, false, false, false, false] rfl rfl (any_of HT_.out (by kernel_rfl)) (fun _ _ _ h => h) (Or.inl ⟨by rfl, ?_⟩) ?_ ?_
                                                                rotate_left
                                                                · intro w'
                                                                  go_simp
                                                                  with_reducible rfl
                                                                rotate_left
                                                                · simp only [Act.put, List.setIfInBounds_toArray, List.set_cons_zero, List.set_cons_succ, i64_w, i32_w]
                                                                  rfl
                                                                refine pure_ (i := 10) (N := some 185) (v := ?_) (a' := ?_) #[true, true, true, true, true, true, true, true, false, true, true, false, false, false, false, false, false, false, false, false, false, false, false, false, false, false, false, false, false, false, false, false, false] rfl rfl (any_of HT_.out (by kernel_rfl)) (fun _ _ _ h => h) (Or.inl ⟨by rfl, ?_⟩) ?_ ?_
                                                                rotate_left
                                                                · intro w'
                                                                  go_simp
                                                                  with_reducible rfl
                                                                rotate_left
                                                                · simp only [Act.put, List.setIfInBounds_toArray, List.set_cons_zero, List.set_cons_succ, i64_w, i32_w]
                                                                  rfl
                                                                refine pure_ (i := 11) (N := some 186) (v := ?_) (a' := ?_) #[true, true, true, true, true, true, true, true, false, true, true, true, false, false, false, false, false, false, false, false, false, false, false, false, false, false, false, false, false, false, false, false, false] rfl rfl (any_of HT_.out (by kernel_rfl)) (fun _ _ _ h => h) (Or.inl ⟨by rfl, ?_⟩) ?_ ?_
                                                                rotate_left
                                                                · intro w'
                                                                  go_simp
                                                                  with_reducible rfl
                                                                rotate_left
                                                                · simp only [Act.put, List.setIfInBounds_toArray, List.set_cons_zero, List.set_cons_succ, i64_w, i32_w]
                                                                  rfl
                                                                refine pure_ (i := 12) (N := some 187) (v := ?_) (a' := ?_) #[true, true, true, true, true, true, true, true, false, true, true, true, true, false, false, false, false, false, false, false, false, false, false, false, false, false, false, false, false, false, false, false, false] rfl rfl (any_of HT_.out (by kernel_rfl)) (fun _ _ _ h => h) (Or.inl ⟨by rfl, ?_⟩) ?_ ?_
                                                                rotate_left
                                                                · intro w'
                                                                  go_simp
                                                                  with_reducible rfl
                                                                rotate_left
                                                                · simp only [Act.put, List.setIfInBounds_toArray, List.set_cons_zero, List.set_cons_succ, i64_w, i32_w]
                                                                  rfl
                                                                refine pure_ (i := 13) (N := some 188) (v := ?_) (a' := ?_) #[true, true, true, true, true, true, true, true, false, true, true, true, true, true, false, false, false, false, false, false, false, false, false, false, false, false, false, false, false, false, false, false, false] rfl rfl (any_of HT_.out (by kernel_rfl)) (fun _ _ _ h => h) (Or.inl ⟨by rfl, ?_⟩) ?_ ?_
                                                                rotate_left
                                                                · intro w'
                                                                  go_simp
                                                                  with_reducible rfl
                                                                rotate_left
                                                                · simp only [Act.put, List.setIfInBounds_toArray, List.set_cons_zero, List.set_cons_succ, i64_w, i32_w]
                                                                  rfl
                                                                refine one_ (i := 8) (N := some 183) #[true, true, true, true, true, true, true, true, true, true, true, true, true, true, false, false, false, false, false, false, false, false, false, false, false, false, false, false, false, false, false, false, false] rfl rfl (one_of HT_.out (by kernel_rfl)) (by decide) (fun K hK => ?_)
                                                                refine goes_ Try.func16 (by kernel_rfl) rfl #[.slice Ao111 t279.length co111, .int .i64 x18_6] (by rfl) rfl rfl (by (try simp only [List.map_toArray, List.map_cons, List.map_nil]); first | done | rfl | (simp only [List.length_drop, List.length_take]; rfl)) ?_
                                                                with_reducible refine (impl_NumAt.calls kj94 _ _ t279 x18_6 t289 _ ?side1 ?side2 A103.out).mono ?_
                                                                (case side1 => repeat (first | exact (Kd.R_reads' HO_15.out).2.2 | (with_reducible refine Kd.C_alloc ?_ _) | (with_reducible refine Kd.C_drewN ?_ _) | (with_reducible refine Kd.C_drew ?_)))
                                                                (case side2 => exact (Kd.R_reads' HO_15.out).2.1)
                                                                rintro e w' ⟨rfl, ⟨nd, rfl⟩⟩
                                                                refine ⟨_, rfl, ?_⟩
                                                                obtain ⟨Ao112, co112, eo112⟩ := Kd.R_slice HO_16.out
                                                                (first | subst eo112 | (injection eo112 with f1_ f2_ f3_; have f4_ := f1_.symm; have f5_ := f3_.symm; clear f1_ f2_ f3_; subst f4_; subst f5_))
                                                                refine hK.out _ _ trivial (fun hHeld => ?_)
                                                                clear hK K
                                                                refine norm_ (a' := ?_) ?_ ?_
                                                                rotate_left
                                                                · show Act.put _ (some 183) _ = _
                                                                  simp only [Act.put, List.setIfInBounds_toArray, List.set_cons_zero, List.set_cons_succ, i64_w, i32_w]
                                                                  rfl
                                                                refine pure_ (i := 14) (N := some 189) (v := ?_) (a' := ?_) #[true, true, true, true, true, true, true, true, true, true, true, true, true, true, true, false, false, false, false, false, false, false, false, false, false, false, false, false, false, false, false, false, false] rfl rfl (any_of HT_.out (by kernel_rfl)) (fun _ _ _ h => h) (Or.inl ⟨by rfl, ?_⟩) ?_ ?_
                                                                rotate_left
                                                                · intro w'
                                                                  go_simp
                                                                  with_reducible rfl
                                                                rotate_left
                                                                · simp only [Act.put, List.setIfInBounds_toArray, List.set_cons_zero, List.set_cons_succ, i64_w, i32_w]
                                                                  rfl
                                                                refine pure_ (i := 15) (N := some 190) (v := ?_) (a' := ?_) #[true, true, true, true, true, true, true, true, true, true, true, true, true, true, true, true, false, false, false, false, false, false, false, false, false, false, false, false, false, false, false, false, false] rfl rfl (any_of HT_.out (by kernel_rfl)) (fun _ _ _ h => h) (Or.inl ⟨by rfl, ?_⟩) ?_ ?_
                                                                rotate_left
                                                                · intro w'
                                                                  go_simp
                                                                  with_reducible rfl
                                                                rotate_left
                                                                · simp only [Act.put, List.setIfInBounds_toArray, List.set_cons_zero, List.set_cons_succ, i64_w, i32_w]
                                                                  rfl
                                                                refine pure_ (i := 16) (N := some 191) (v := ?_) (a' := ?_) #[true, true, true, true, true, true, true, true, true, true, true, true, true, true, true, true, true, false, false, false, false, false, false, false, false, false, false, false, false, false, false, false, false] rfl rfl (any_of HT_.out (by kernel_rfl)) (fun _ _ _ h => h) (Or.inl ⟨by rfl, ?_⟩) ?_ ?_
                                                                rotate_left
                                                                · intro w'
                                                                  go_simp
                                                                  with_reducible rfl
                                                                rotate_left
                                                                · simp only [Act.put, List.setIfInBounds_toArray, List.set_cons_zero, List.set_cons_succ, i64_w, i32_w]
                                                                  rfl
                                                                refine pure_ (i := 17) (N := some 192) (v := ?_) (a' := ?_) #[true, true, true, true, true, true, true, true, true, true, true, true, true, true, true, true, true, true, false, false, false, false, false, false, false, false, false, false, false, false, false, false, false] rfl rfl (any_of HT_.out (by kernel_rfl)) (fun _ _ _ h => h) (Or.inl ⟨by rfl, ?_⟩) ?_ ?_
                                                                rotate_left
                                                                · intro w'
                                                                  go_simp
                                                                  with_reducible rfl
                                                                rotate_left
                                                                · simp only [Act.put, List.setIfInBounds_toArray, List.set_cons_zero, List.set_cons_succ, i64_w, i32_w]
                                                                  rfl
                                                                refine pure_ (i := 18) (N := some 193) (v := ?_) (a' := ?_) #[true, true, true, true, true, true, true, true, true, true, true, true, true, true, true, true, true, true, true, false, false, false, false, false, false, false, false, false, false, false, false, false, false] rfl rfl (any_of HT_.out (by kernel_rfl)) (fun _ _ _ h => h) (Or.inl ⟨by rfl, ?_⟩) ?_ ?_
                                                                rotate_left
                                                                · intro w'
                                                                  go_simp
                                                                  with_reducible rfl
                                                                rotate_left
                                                                · simp only [Act.put, List.setIfInBounds_toArray, List.set_cons_zero, List.set_cons_succ, i64_w, i32_w]
                                                                  rfl
                                                                refine pure_ (i := 20) (N := some 195) (v := ?_) (a' := ?_) #[true, true, true, true, true, true, true, true, true, true, true, true, true, true, true, true, true, true, true, false, true, false, false, false, false, false, false, false, false, false, false, false, false] rfl rfl (any_of HT_.out (by kernel_rfl)) (fun _ _ _ h => h) (Or.inl ⟨by rfl, ?_⟩) ?_ ?_
                                                                rotate_left
                                                                · intro w'
                                                                  go_simp
                                                                  with_reducible rfl
                                                                rotate_left
                                                                · simp only [Act.put, List.setIfInBounds_toArray, List.set_cons_zero, List.set_cons_succ, i64_w, i32_w]
                                                                  rfl
                                                                refine pure_ (i := 21) (N := some 196) (v := ?_) (a' := ?_) #[true, true, true, true, true, true, true, true, true, true, true, true, true, true, true, true, true, true, true, false, true, true, false, false, false, false, false, false, false, false, false, false, false] rfl rfl (any_of HT_.out (by kernel_rfl)) (fun _ _ _ h => h) (Or.inl ⟨by rfl, ?_⟩) ?_ ?_
                                                                rotate_left
                                                                · intro w'
                                                                  go_simp
                                                                  with_reducible rfl
                                                                rotate_left
                                                                · simp only [Act.put, List.setIfInBounds_toArray, List.set_cons_zero, List.set_cons_succ, i64_w, i32_w]
                                                                  rfl
                                                                refine pure_ (i := 22) (N := some 197) (v := ?_) (a' := ?_) #[true, true, true, true, true, true, true, true, true, true, true, true, true, true, true, true, true, true, true, false, true, true, true, false, false, false, false, false, false, false, false, false, false] rfl rfl (any_of HT_.out (by kernel_rfl)) (fun _ _ _ h => h) (Or.inl ⟨by rfl, ?_⟩) ?_ ?_
                                                                rotate_left
                                                                · intro w'
                                                                  go_simp
                                                                  with_reducible rfl
                                                                rotate_left
                                                                · simp only [Act.put, List.setIfInBounds_toArray, List.set_cons_zero, List.set_cons_succ, i64_w, i32_w]
                                                                  rfl
                                                                refine one_ (i := 19) (N := some 194) #[true, true, true, true, true, true, true, true, true, true, true, true, true, true, true, true, true, true, true, true, true, true, true, false, false, false, false, false, false, false, false, false, false] rfl rfl (one_of HT_.out (by kernel_rfl)) (by decide) (fun K hK => ?_)
                                                                refine goes_ Try.func16 (by kernel_rfl) rfl #[.slice Ao112 t282.length co112, .int .i64 x18_6] (by rfl) rfl rfl (by (try simp only [List.map_toArray, List.map_cons, List.map_nil]); first | done | rfl | (simp only [List.length_drop, List.length_take]; rfl)) ?_
                                                                with_reducible refine (impl_NumAt.calls kj94 _ _ t282 x18_6 t290 _ ?side1 ?side2 A106.out).mono ?_
                                                                (case side1 => repeat (first | exact (Kd.R_reads' HO_16.out).2.2 | (with_reducible refine Kd.C_alloc ?_ _) | (with_reducible refine Kd.C_drewN ?_ _) | (with_reducible refine Kd.C_drew ?_)))
                                                                (case side2 => exact (Kd.R_reads' HO_16.out).2.1)
                                                                rintro e w' ⟨rfl, ⟨nd, rfl⟩⟩
                                                                refine ⟨_, rfl, ?_⟩
                                                                refine hK.out _ _ trivial (fun hHeld => ?_)
                                                                clear hK K
                                                                refine norm_ (a' := ?_) ?_ ?_
                                                                rotate_left
                                                                · show Act.put _ (some 194) _ = _
                                                                  simp only [Act.put, List.setIfInBounds_toArray, List.set_cons_zero, List.set_cons_succ, i64_w, i32_w]
                                                                  rfl
                                                                refine pure_ (i := 23) (N := some 198) (v := ?_) (a' := ?_) #[true, true, true, true, true, true, true, true, true, true, true, true, true, true, true, true, true, true, true, true, true, true, true, true, false, false, false, false, false, false, false, false, false] rfl rfl (any_of HT_.out (by kernel_rfl)) (fun _ _ _ h => h) (Or.inl ⟨by rfl, ?_⟩) ?_ ?_
                                                                rotate_left
                                                                · intro w'
                                                                  go_simp
                                                                  with_reducible rfl
                                                                rotate_left
                                                                · simp only [Act.put, List.setIfInBounds_toArray, List.set_cons_zero, List.set_cons_succ, i64_w, i32_w]
                                                                  rfl
                                                                refine pure_ (i := 24) (N := some 199) (v := ?_) (a' := ?_) #[true, true, true, true, true, true, true, true, true, true, true, true, true, true, true, true, true, true, true, true, true, true, true, true, true, false, false, false, false, false, false, false, false] rfl rfl (any_of HT_.out (by kernel_rfl)) (fun _ _ _ h => h) (Or.inl ⟨by rfl, ?_⟩) ?_ ?_
                                                                rotate_left
                                                                · intro w'
                                                                  go_simp
                                                                  with_reducible rfl
                                                                rotate_left
                                                                · simp only [Act.put, List.setIfInBounds_toArray, List.set_cons_zero, List.set_cons_succ, i64_w, i32_w]
                                                                  rfl
                                                                refine pure_ (i := 25) (N := some 200) (v := ?_) (a' := ?_) #[true, true, true, true, true, true, true, true, true, true, true, true, true, true, true, true, true, true, true, true, true, true, true, true, true, true, false, false, false, false, false, false, false] rfl rfl (any_of HT_.out (by kernel_rfl)) (fun _ _ _ h => h) (Or.inl ⟨by rfl, ?_⟩) ?_ ?_
                                                                rotate_left
                                                                · intro w'
                                                                  go_simp
                                                                  with_reducible rfl
                                                                rotate_left
                                                                · simp only [Act.put, List.setIfInBounds_toArray, List.set_cons_zero, List.set_cons_succ, i64_w, i32_w]
                                                                  rfl
                                                                refine pure_ (i := 26) (N := some 201) (v := ?_) (a' := ?_) #[true, true, true, true, true, true, true, true, true, true, true, true, true, true, true, true, true, true, true, true, true, true, true, true, true, true, true, false, false, false, false, false, false] rfl rfl (any_of HT_.out (by kernel_rfl)) (fun _ _ _ h => h) (Or.inl ⟨by rfl, ?_⟩) ?_ ?_
                                                                rotate_left
                                                                · intro w'
                                                                  go_simp
                                                                  with_reducible rfl
                                                                rotate_left
                                                                · simp only [Act.put, List.setIfInBounds_toArray, List.set_cons_zero, List.set_cons_succ, i64_w, i32_w]
                                                                  rfl
                                                                refine pure_ (i := 27) (N := some 202) (v := ?_) (a' := ?_) #[true, true, true, true, true, true, true, true, true, true, true, true, true, true, true, true, true, true, true, true, true, true, true, true, true, true, true, true, false, false, false, false, false] rfl rfl (any_of HT_.out (by kernel_rfl)) (fun _ _ _ h => h) (Or.inl ⟨by rfl, ?_⟩) ?_ ?_
                                                                rotate_left
                                                                · intro w'
                                                                  go_simp
                                                                  with_reducible rfl
                                                                rotate_left
                                                                · simp only [Act.put, List.setIfInBounds_toArray, List.set_cons_zero, List.set_cons_succ, i64_w, i32_w]
                                                                  rfl
                                                                refine pure_ (i := 28) (N := some 203) (v := ?_) (a' := ?_) #[true, true, true, true, true, true, true, true, true, true, true, true, true, true, true, true, true, true, true, true, true, true, true, true, true, true, true, true, true, false, false, false, false] rfl rfl (any_of HT_.out (by kernel_rfl)) (fun _ _ _ h => h) (Or.inl ⟨by rfl, ?_⟩) ?_ ?_
                                                                rotate_left
                                                                · intro w'
                                                                  go_simp
                                                                  with_reducible rfl
                                                                rotate_left
                                                                · simp only [Act.put, List.setIfInBounds_toArray, List.set_cons_zero, List.set_cons_succ, i64_w, i32_w]
                                                                  rfl
                                                                refine pure_ (i := 29) (N := some 204) (v := ?_) (a' := ?_) #[true, true, true, true, true, true, true, true, true, true, true, true, true, true, true, true, true, true, true, true, true, true, true, true, true, true, true, true, true, true, false, false, false] rfl rfl (any_of HT_.out (by kernel_rfl)) (fun _ _ _ h => h) (Or.inl ⟨by rfl, ?_⟩) ?_ ?_
                                                                rotate_left
                                                                · intro w'
                                                                  go_simp
                                                                  with_reducible rfl
                                                                rotate_left
                                                                · simp only [Act.put, List.setIfInBounds_toArray, List.set_cons_zero, List.set_cons_succ, i64_w, i32_w]
                                                                  rfl
                                                                refine pure_ (i := 30) (N := some 205) (v := ?_) (a' := ?_) #[true, true, true, true, true, true, true, true, true, true, true, true, true, true, true, true, true, true, true, true, true, true, true, true, true, true, true, true, true, true, true, false, false] rfl rfl (any_of HT_.out (by kernel_rfl)) (fun _ _ _ h => h) (Or.inl ⟨by rfl, ?_⟩) ?_ ?_
                                                                rotate_left
                                                                · intro w'
                                                                  go_simp
                                                                  with_reducible rfl
                                                                rotate_left
                                                                · simp only [Act.put, List.setIfInBounds_toArray, List.set_cons_zero, List.set_cons_succ, i64_w, i32_w]
                                                                  rfl
                                                                refine pure_ (i := 31) (N := some 206) (v := ?_) (a' := ?_) #[true, true, true, true, true, true, true, true, true, true, true, true, true, true, true, true, true, true, true, true, true, true, true, true, true, true, true, true, true, true, true, true, false] rfl rfl (any_of HT_.out (by kernel_rfl)) (fun _ _ _ h => h) (Or.inl ⟨by rfl, ?_⟩) ?_ ?_
                                                                rotate_left
                                                                · intro w'
                                                                  go_simp
                                                                  with_reducible rfl
                                                                rotate_left
                                                                · simp only [Act.put, List.setIfInBounds_toArray, List.set_cons_zero, List.set_cons_succ, i64_w, i32_w]
                                                                  rfl
                                                                refine pure_ (i := 32) (N := some 207) (v := ?_) (a' := ?_) #[true, true, true, true, true, true, true, true, true, true, true, true, true, true, true, true, true, true, true, true, true, true, true, true, true, true, true, true, true, true, true, true, true] rfl rfl (any_of HT_.out (by kernel_rfl)) (fun _ _ _ h => h) (Or.inl ⟨by rfl, ?_⟩) ?_ ?_
                                                                rotate_left
                                                                · intro w'
                                                                  go_simp
                                                                  with_reducible rfl
                                                                rotate_left
                                                                · simp only [Act.put, List.setIfInBounds_toArray, List.set_cons_zero, List.set_cons_succ, i64_w, i32_w]
                                                                  rfl
                                                                refine done_ (done_of HT_.out (by kernel_rfl)) ?_
                                                                try go_wp2
                                                                go_roundg kj94
                                                                case measure => have := HJ8.out; have := HK2.out; have := HK3.out; have := HK4.out; have := HJ73.out; have := HK6.out; have := HJ91.out; have := HJ94.out; omega
                                                                case rel => exact ⟨(wrap64 (x18_6 + 1)), (by first | rfl | (simp; done) | (simp [*]; done)), H', ⟨by have := HJ8.out; have := HK2.out; have := HK3.out; have := HK4.out; have := HJ73.out; have := HK6.out; have := HJ91.out; have := HJ94.out; omega⟩, ⟨by (with_reducible repeat (first | apply Kd.R_alloc | apply Kd.R_drewN | apply Kd.R_drew)); exact HO_3.out⟩, ⟨by (with_reducible repeat (first | apply Kd.R_alloc | apply Kd.R_drewN | apply Kd.R_drew)); exact HO_10.out⟩, ⟨by (with_reducible repeat (first | apply Kd.R_alloc | apply Kd.R_drewN | apply Kd.R_drew)); exact HO_13.out⟩, ⟨by (with_reducible repeat (first | apply Kd.R_alloc | apply Kd.R_drewN | apply Kd.R_drew)); exact HO_15.out⟩, ⟨by (with_reducible repeat (first | apply Kd.R_alloc | apply Kd.R_drewN | apply Kd.R_drew)); exact HO_16.out⟩, ⟨by repeat (first | (with_reducible first | exact HB.out | apply below_alloc | apply pw_below_drewN | apply below_drew1) | exact HB.out)⟩⟩
                                                            · rw [if_neg c108] at H
                                                              have c108b0 : (t290 == (ji107)) = false := beq_eq_false_iff_ne.mpr c108
                                                              have c108b1 : (t290 != (ji107)) = true := bne_iff_ne.mpr c108
                                                              exact absurd ((Option.some.inj H).trans HT_.out) (by decide)
                                                          · rw [if_neg c105] at H
                                                            have c105b0 : (t289 == (Int.tmod (wrap64 (x19_91 + x20_94)) x7_2)) = false := beq_eq_false_iff_ne.mpr c105
                                                            have c105b1 : (t289 != (Int.tmod (wrap64 (x19_91 + x20_94)) x7_2)) = true := bne_iff_ne.mpr c105
                                                            exact absurd ((Option.some.inj H).trans HT_.out) (by decide)
                                                      · rw [if_neg c102] at H
                                                        have c102b0 : (t288 == x19_91) = false := beq_eq_false_iff_ne.mpr c102
                                                        have c102b1 : (t288 != x19_91) = true := bne_iff_ne.mpr c102
                                                        exact absurd ((Option.some.inj H).trans HT_.out) (by decide)
                                                    · rw [if_neg c99] at H
                                                      exact absurd H (by simp)
                                          · rw [if_neg c91] at H
                                            have c91b0 : decide (x18_6 < 64) = false := decide_eq_false c91
                                            clear c91
                                            obtain rfl := Option.some.inj H
                                            go_wp2
                                            go_ret
                                            exact ⟨by first | rfl | (simp [errW_none, errW_some] <;> rfl) | (simp only [← hji5]; first | rfl | (simp [errW_none, errW_some] <;> rfl)) | (simp [*, errW_none, errW_some] <;> rfl), by repeat (first | (with_reducible first | exact HB.out | apply below_alloc | apply pw_below_drewN | apply below_drew1) | exact HB.out)⟩
      · rw [if_neg c7] at H
        exact absurd H (by simp)
    · rw [if_neg c6] at H
      exact absurd H (by simp)

/-- THE ONE PURE STATEMENT of laws_FnNums: yours. -/
def laws_FnNums.Pure : Prop := ∀ (l0 : List Int), l0.length ≤ maxLen → l0.length * 1 ≤ 140737488351232 → (∀ x ∈ l0, (Lit.int .u8 x).wf = true) → ∃ k, laws_FnNums.f k l0 = some true
theorem laws_FnNums.walk (P : laws_FnNums.Pure) (a0 : Option Addr) (len0 cap0 : Nat) (z0 : List Int) (w : World) (w0 : (a0 = none ∧ len0 = 0 ∧ cap0 = 0 ∧ z0 = []) ∨ ∃ x, a0 = some x ∧ len0 ≤ cap0 ∧ cap0 ≤ maxLen ∧ z0.length = cap0 ∧ (∀ i, i < z0.length → w.cell? (x.add i) = some (.int .u8 (z0.getD i 0))) ∧ ∀ n ∈ z0, (Lit.int .u8 n).wf = true) (y0 : len0 * 1 ≤ 140737488351232) :
    Calls Try.prog 3 #[.slice a0 len0 cap0] w fun e w' => e = .returned (.bool true) ∧ Below w.heap.size w w' := by
  obtain ⟨l0, rfl, hr0, hm0, hw0, hc0⟩ := ReadsInt.ofRowC w0
  obtain ⟨k, h⟩ := P l0 hm0 y0 hw0
  refine (laws_FnNums.calls k _ _ l0 true w (Kd.C_of_reads (d := (0 : Int)) (h1 := fun _ => rfl) hr0) hc0 h).mono ?_
  rintro e w' ⟨rfl, hd⟩
  exact ⟨rfl, hd⟩

end Go.Proofs.Ytljmhhadclgegaa.PFnNums

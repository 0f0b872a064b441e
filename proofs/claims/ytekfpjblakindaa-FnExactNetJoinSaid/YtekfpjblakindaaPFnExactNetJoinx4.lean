-- Laid by a program of this session: what the print of the kit writes, and contracts of the session where the print takes no function. Lean checks it.
import Derived.Test.YtekfpjblakindaaPFnExactNetJoinx0
import Derived.Test.YtekfpjblakindaaPFnExactNetJoinx1
import Derived.Test.YtekfpjblakindaaPFnExactNetJoinx2
import Derived.Test.YtekfpjblakindaaPFnExactNetJoinx3
namespace Go.Proofs.Ytekfpjblakindaa.PFnExactNetJoin
open Go.RowKit Go.Proofs.YtekfpjblakindaaW.PrintWords Go.Proofs.YtekfpjblakindaaW.PrintLast Go.Proofs.YtekfpjblakindaaW.PrintMore
attribute [local go_sem] max2_int min2_int max_two min_two max_three min_three max_four min_four   -- for this text's walks alone
set_option linter.unusedVariables false
set_option linter.unusedSimpArgs false

/-! ### laws_FnExactNetJoin: function 4 -/
mutual
def laws_FnExactNetJoin.j0 : Nat → Bool → Bool → Bool → Int → List (S72) → Int → List (S72) → Int → List (S55) → Int → List (S55) → Int → List (S55) → Int → List (S55) → Option (Bool)
  | 0, _, _, _, _, _, _, _, _, _, _, _, _, _, _, _ => none
  | k + 1, x7, x11, x53, x154000, x154001, x155000, x155001, x171000, x171001, x176000, x176001, x181000, x181001, x187000, x187001 => if x53 = true then (some false) else ((laws_toNet.f k x154000 x154001).bind fun bt188 => ((laws_eqNet.f k x176000 x176001 bt188.1 bt188.2).bind fun t192 => (if t192 = true then ((laws_toNet.f k x155000 x155001).bind fun bt193 => ((laws_eqNet.f k x181000 x181001 bt193.1 bt193.2).bind fun t197 => (if t197 = true then ((laws_markNet.f k x176000 x176001 1).bind fun bt198 => ((laws_markNet.f k x181000 x181001 bt198.1).bind fun bt200 => (if bt200.1 < 0 then (laws_FnExactNetJoin.j1 k x7 true x154000 x154001 x155000 x155001 x171000 x171001 x187000 x187001) else ((laws_eqNet.f k x187000 x187001 x171000 x171001).bind fun t202 => (if t202 = true then (laws_FnExactNetJoin.j1 k x7 (x11 != x7) x154000 x154001 x155000 x155001 x171000 x171001 x187000 x187001) else (laws_FnExactNetJoin.j1 k x7 true x154000 x154001 x155000 x155001 x171000 x171001 x187000 x187001)))))) else (some false)))) else (some false))))
def laws_FnExactNetJoin.j1 : Nat → Bool → Bool → Int → List (S72) → Int → List (S72) → Int → List (S55) → Int → List (S55) → Option (Bool)
  | 0, _, _, _, _, _, _, _, _, _, _ => none
  | k + 1, x7, x82, x154000, x154001, x155000, x155001, x171000, x171001, x187000, x187001 => if x82 = true then (some false) else ((laws_markNet.f k x187000 x187001 1).bind fun bt203 => ((laws_heldNet.f k x187000 bt203.2 1).bind fun t205 => (if t205 < 0 then (some false) else (if t205 = bt203.1 then ((laws_toNet.f k x154000 x154001).bind fun bt206 => ((laws_toNet.f k x155000 x155001).bind fun bt210 => ((impl_NetJoin.f k bt206.1 bt206.2 bt210.1 bt210.2).bind fun bt214 => ((laws_eqNet.f k bt214.1 bt214.2.1 x171000 x171001).bind fun t220 => (if t220 = true then (laws_FnExactNetJoin.j2 k bt203.1 (bt214.2.2 != x7) x187000 bt203.2) else (laws_FnExactNetJoin.j2 k bt203.1 true x187000 bt203.2)))))) else (some false)))))
def laws_FnExactNetJoin.j2 : Nat → Int → Bool → Int → List (S55) → Option (Bool)
  | 0, _, _, _, _ => none
  | k + 1, x13, x110, x187000, x187001 => if x110 = true then (some false) else ((laws_heldNet.f k x187000 x187001 1).bind fun t221 => (if t221 < 0 then (some false) else (if t221 = x13 then (some true) else (some false))))
end
def laws_FnExactNetJoin.f (k : Nat) (a0_0 : Int) (l0_1 : List (S72)) (a1_0 : Int) (l1_1 : List (S72)) : Option (Bool) := (laws_szNet.f a0_0 l0_1 1048576).bind fun t155 => (if t155 < 0 then (some true) else ((laws_szNet.f a1_0 l1_1 t155).bind fun t156 => (if t156 < 0 then (some true) else ((laws_toNet.f k a0_0 l0_1).bind fun bt157 => ((laws_toNet.f k a1_0 l1_1).bind fun bt161 => ((spec_NetJoin.f k bt157.1 bt157.2 bt161.1 bt161.2).bind fun bt165 => ((laws_toNet.f k a0_0 l0_1).bind fun bt171 => ((laws_toNet.f k a1_0 l1_1).bind fun bt176 => ((impl_NetJoin.f k bt171.1 bt171.2 bt176.1 bt176.2).bind fun bt181 => ((laws_eqNet.f k bt181.1 bt181.2.1 bt165.1 bt165.2.1).bind fun t187 => (if t187 = true then (laws_FnExactNetJoin.j0 k bt165.2.2 bt181.2.2 (bt181.2.2 != bt165.2.2) a0_0 l0_1 a1_0 l1_1 bt165.1 bt165.2.1 bt171.1 bt171.2 bt176.1 bt176.2 bt181.1 bt181.2.1) else (laws_FnExactNetJoin.j0 k bt165.2.2 bt181.2.2 true a0_0 l0_1 a1_0 l1_1 bt165.1 bt165.2.1 bt171.1 bt171.2 bt176.1 bt176.2 bt181.1 bt181.2.1))))))))))))
theorem laws_FnExactNetJoin.mono_l : ∀ k, (∀ y0 y1 y2 y3 y4 y5 y6 y7 y8 y9 y10 y11 y12 y13 y14, LeO (laws_FnExactNetJoin.j0 k y0 y1 y2 y3 y4 y5 y6 y7 y8 y9 y10 y11 y12 y13 y14) (laws_FnExactNetJoin.j0 (k + 1) y0 y1 y2 y3 y4 y5 y6 y7 y8 y9 y10 y11 y12 y13 y14)) ∧ (∀ y0 y1 y2 y3 y4 y5 y6 y7 y8 y9, LeO (laws_FnExactNetJoin.j1 k y0 y1 y2 y3 y4 y5 y6 y7 y8 y9) (laws_FnExactNetJoin.j1 (k + 1) y0 y1 y2 y3 y4 y5 y6 y7 y8 y9)) ∧ (∀ y0 y1 y2 y3, LeO (laws_FnExactNetJoin.j2 k y0 y1 y2 y3) (laws_FnExactNetJoin.j2 (k + 1) y0 y1 y2 y3))
  | 0 => ⟨fun _ _ _ _ _ _ _ _ _ _ _ _ _ _ _ r h => by simp [laws_FnExactNetJoin.j0] at h, fun _ _ _ _ _ _ _ _ _ _ r h => by simp [laws_FnExactNetJoin.j1] at h, fun _ _ _ _ r h => by simp [laws_FnExactNetJoin.j2] at h⟩
  | k + 1 => by
    obtain ⟨ih0, ih1, ih2⟩ := laws_FnExactNetJoin.mono_l k
    refine ⟨?_, ?_, ?_⟩
    · intro y0 y1 y2 y3 y4 y5 y6 y7 y8 y9 y10 y11 y12 y13 y14
      unfold laws_FnExactNetJoin.j0
      repeat' first
      | (with_reducible exact ih0 _ _ _ _ _ _ _ _ _ _ _ _ _ _ _)
      | (with_reducible exact ih1 _ _ _ _ _ _ _ _ _ _)
      | (with_reducible exact ih2 _ _ _ _)
      | (with_reducible exact impl_NetJoin.mono _ _ _ _ _)
      | (with_reducible exact laws_eqNet.mono _ _ _ _ _)
      | (with_reducible exact laws_heldNet.mono _ _ _ _)
      | (with_reducible exact laws_markNet.mono _ _ _ _)
      | (with_reducible exact laws_toNet.mono _ _ _)
      | (with_reducible exact spec_NetJoin.mono _ _ _ _ _)
      | (with_reducible exact LeO.refl _)
      | (with_reducible exact LeO.none _)
      | (with_reducible refine LeO.ite ?_ ?_)
      | (with_reducible refine LeO.bind ?_ (fun _ => ?_))
      | exact ih0 _ _ _ _ _ _ _ _ _ _ _ _ _ _ _
      | exact ih1 _ _ _ _ _ _ _ _ _ _
      | exact ih2 _ _ _ _
      | exact impl_NetJoin.mono _ _ _ _ _
      | exact laws_eqNet.mono _ _ _ _ _
      | exact laws_heldNet.mono _ _ _ _
      | exact laws_markNet.mono _ _ _ _
      | exact laws_toNet.mono _ _ _
      | exact spec_NetJoin.mono _ _ _ _ _
      | exact LeO.none _
      | refine LeO.ite ?_ ?_
      | refine LeO.bind ?_ (fun _ => ?_)
    · intro y0 y1 y2 y3 y4 y5 y6 y7 y8 y9
      unfold laws_FnExactNetJoin.j1
      repeat' first
      | (with_reducible exact ih0 _ _ _ _ _ _ _ _ _ _ _ _ _ _ _)
      | (with_reducible exact ih1 _ _ _ _ _ _ _ _ _ _)
      | (with_reducible exact ih2 _ _ _ _)
      | (with_reducible exact impl_NetJoin.mono _ _ _ _ _)
      | (with_reducible exact laws_eqNet.mono _ _ _ _ _)
      | (with_reducible exact laws_heldNet.mono _ _ _ _)
      | (with_reducible exact laws_markNet.mono _ _ _ _)
      | (with_reducible exact laws_toNet.mono _ _ _)
      | (with_reducible exact spec_NetJoin.mono _ _ _ _ _)
      | (with_reducible exact LeO.refl _)
      | (with_reducible exact LeO.none _)
      | (with_reducible refine LeO.ite ?_ ?_)
      | (with_reducible refine LeO.bind ?_ (fun _ => ?_))
      | exact ih0 _ _ _ _ _ _ _ _ _ _ _ _ _ _ _
      | exact ih1 _ _ _ _ _ _ _ _ _ _
      | exact ih2 _ _ _ _
      | exact impl_NetJoin.mono _ _ _ _ _
      | exact laws_eqNet.mono _ _ _ _ _
      | exact laws_heldNet.mono _ _ _ _
      | exact laws_markNet.mono _ _ _ _
      | exact laws_toNet.mono _ _ _
      | exact spec_NetJoin.mono _ _ _ _ _
      | exact LeO.none _
      | refine LeO.ite ?_ ?_
      | refine LeO.bind ?_ (fun _ => ?_)
    · intro y0 y1 y2 y3
      unfold laws_FnExactNetJoin.j2
      repeat' first
      | (with_reducible exact ih0 _ _ _ _ _ _ _ _ _ _ _ _ _ _ _)
      | (with_reducible exact ih1 _ _ _ _ _ _ _ _ _ _)
      | (with_reducible exact ih2 _ _ _ _)
      | (with_reducible exact impl_NetJoin.mono _ _ _ _ _)
      | (with_reducible exact laws_eqNet.mono _ _ _ _ _)
      | (with_reducible exact laws_heldNet.mono _ _ _ _)
      | (with_reducible exact laws_markNet.mono _ _ _ _)
      | (with_reducible exact laws_toNet.mono _ _ _)
      | (with_reducible exact spec_NetJoin.mono _ _ _ _ _)
      | (with_reducible exact LeO.refl _)
      | (with_reducible exact LeO.none _)
      | (with_reducible refine LeO.ite ?_ ?_)
      | (with_reducible refine LeO.bind ?_ (fun _ => ?_))
      | exact ih0 _ _ _ _ _ _ _ _ _ _ _ _ _ _ _
      | exact ih1 _ _ _ _ _ _ _ _ _ _
      | exact ih2 _ _ _ _
      | exact impl_NetJoin.mono _ _ _ _ _
      | exact laws_eqNet.mono _ _ _ _ _
      | exact laws_heldNet.mono _ _ _ _
      | exact laws_markNet.mono _ _ _ _
      | exact laws_toNet.mono _ _ _
      | exact spec_NetJoin.mono _ _ _ _ _
      | exact LeO.none _
      | refine LeO.ite ?_ ?_
      | refine LeO.bind ?_ (fun _ => ?_)
theorem laws_FnExactNetJoin.mono : ∀ a0 a1 a2 a3 k, LeO (laws_FnExactNetJoin.f k a0 a1 a2 a3) (laws_FnExactNetJoin.f (k + 1) a0 a1 a2 a3) := by
  intro a0 a1 a2 a3 k
  obtain ⟨ih0, ih1, ih2⟩ := laws_FnExactNetJoin.mono_l k
  unfold laws_FnExactNetJoin.f
  repeat' first
      | (with_reducible exact ih0 _ _ _ _ _ _ _ _ _ _ _ _ _ _ _)
      | (with_reducible exact ih1 _ _ _ _ _ _ _ _ _ _)
      | (with_reducible exact ih2 _ _ _ _)
      | (with_reducible exact impl_NetJoin.mono _ _ _ _ _)
      | (with_reducible exact laws_eqNet.mono _ _ _ _ _)
      | (with_reducible exact laws_heldNet.mono _ _ _ _)
      | (with_reducible exact laws_markNet.mono _ _ _ _)
      | (with_reducible exact laws_toNet.mono _ _ _)
      | (with_reducible exact spec_NetJoin.mono _ _ _ _ _)
      | (with_reducible exact LeO.refl _)
      | (with_reducible exact LeO.none _)
      | (with_reducible refine LeO.ite ?_ ?_)
      | (with_reducible refine LeO.bind ?_ (fun _ => ?_))
      | exact ih0 _ _ _ _ _ _ _ _ _ _ _ _ _ _ _
      | exact ih1 _ _ _ _ _ _ _ _ _ _
      | exact ih2 _ _ _ _
      | exact impl_NetJoin.mono _ _ _ _ _
      | exact laws_eqNet.mono _ _ _ _ _
      | exact laws_heldNet.mono _ _ _ _
      | exact laws_markNet.mono _ _ _ _
      | exact laws_toNet.mono _ _ _
      | exact spec_NetJoin.mono _ _ _ _ _
      | exact LeO.none _
      | refine LeO.ite ?_ ?_
      | refine LeO.bind ?_ (fun _ => ?_)
def laws_FnExactNetJoin.T8 : Bool × List (List Nat × List Nat) := (true, [([], []), ([0], [0]), ([], []), ([2, 1], [2]), ([1, 3, 3], [1, 3]), ([4], [4]), ([5], [5]), ([5], [5]), ([], []), ([8, 6, 4, 0, 1, 2, 3, 4, 5, 6, 8], [6, 8]), ([7, 9, 0, 1, 2, 3, 4, 5, 6, 7, 8, 9], [7])])
def laws_FnExactNetJoin.B8 : List Nat := [0, 1, 0, 7, 15, 31, 63, 63, 0, 383, 1023]
theorem laws_FnExactNetJoin.tab8 : rtab .any (opsOf Try.f4 8) = laws_FnExactNetJoin.T8 := by kernel_rfl
theorem laws_FnExactNetJoin.bits8 : waitsOk laws_FnExactNetJoin.T8.2 laws_FnExactNetJoin.B8 = true := by kernel_rfl
def laws_FnExactNetJoin.T31 : Bool × List (List Nat × List Nat) := (true, [([], []), ([0], [0]), ([], []), ([2, 1], [2]), ([1, 3, 3], [1, 3]), ([4], [4]), ([5], [5]), ([5], [5]), ([], []), ([8, 6, 4, 0, 1, 2, 3, 4, 5, 6, 8], [6, 8]), ([7, 9, 0, 1, 2, 3, 4, 5, 6, 7, 8, 9], [7])])
def laws_FnExactNetJoin.B31 : List Nat := [0, 1, 0, 7, 15, 31, 63, 63, 0, 383, 1023]
theorem laws_FnExactNetJoin.tab31 : rtab .any (opsOf Try.f4 31) = laws_FnExactNetJoin.T31 := by kernel_rfl
theorem laws_FnExactNetJoin.bits31 : waitsOk laws_FnExactNetJoin.T31.2 laws_FnExactNetJoin.B31 = true := by kernel_rfl
theorem b4_ {w : World} {g : Nat} {t : TypeId} {cs : Array Value} {v : Value} (h : w.heap[g]? = some (.cells cs t (0, 0))) (i : Nat) (hv : cs[i]? = some v) : w.cell? ⟨g, i, none⟩ = some v := (blk_cell h i).trans hv
theorem mk_ {p : Prop} (h : p) : Aside0 p := ⟨h⟩
end Go.Proofs.Ytekfpjblakindaa.PFnExactNetJoin

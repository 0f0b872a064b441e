-- Laid by a program of this session: what the print of the kit writes, and contracts of the session where the print takes no function. Lean checks it.
import Derived.Test.YtmlbkanpdhnfeaaPFnAheadx0
import Derived.Test.YtmlbkanpdhnfeaaPFnAheadx1
import Derived.Test.YtmlbkanpdhnfeaaPFnAheadx2
import Derived.Test.YtmlbkanpdhnfeaaPFnAheadx5
import Derived.Test.YtmlbkanpdhnfeaaPFnAheadx7
import Derived.Test.YtmlbkanpdhnfeaaPFnAheadx8
namespace Go.Proofs.Ytmlbkanpdhnfeaa.PFnAhead
open Go.RowKit Go.Proofs.YtmlbkanpdhnfeaaW.PrintWords Go.Proofs.YtmlbkanpdhnfeaaW.PrintLast Go.Proofs.YtmlbkanpdhnfeaaW.PrintMore
attribute [local go_sem] max2_int min2_int max_two min_two max_three min_three max_four min_four   -- for this text's walks alone
set_option linter.unusedVariables false
set_option linter.unusedSimpArgs false

attribute [local go_sem high] eqA25
/-! ### laws_FnAhead: function 3 -/
mutual
def laws_FnAhead.j0 : Nat → Bool → Bool → Int → Int → ByteArray → Bool → Int → Int → ByteArray → Bool → Int → Int → ByteArray → Option (Bool)
  | 0, _, _, _, _, _, _, _, _, _, _, _, _, _ => none
  | k + 1, x39, x317000, x317001, x317002, x317003, x318000, x318001, x318002, x318003, x328000, x328001, x328002, x328003 => if x39 = true then ((impl_RecAhead.f k x317000 x317001 x317002 x317003 x318000 x318001 x318002 x318003).bind fun t332 => ((spec_RecAhead.f k x317000 x317001 x317002 x317003 x318000 x318001 x318002 x318003).bind fun t333 => (some (t332 == t333)))) else ((impl_RecAhead.f k x317000 x317001 x317002 x317003 x318000 x318001 x318002 x318003).bind fun t334 => ((impl_RecAhead.f k x318000 x318001 x318002 x318003 x317000 x317001 x317002 x317003).bind fun t335 => (if t334 = true then (if t335 = true then (laws_FnAhead.j1 k t334 true x317000 x317001 x317002 x317003 x318000 x318001 x318002 x318003 x328000 x328001 x328002 x328003) else (if (true != (!(x317000 == x318000) || (!(x317001 == x318001) || (!(x317002 == x318002) || (!(x317003.toList == x318003.toList)))))) = true then (laws_FnAhead.j1 k t334 true x317000 x317001 x317002 x317003 x318000 x318001 x318002 x318003 x328000 x328001 x328002 x328003) else ((spec_RecAhead.f k x317000 x317001 x317002 x317003 x318000 x318001 x318002 x318003).bind fun t336 => (laws_FnAhead.j1 k t334 (t334 != t336) x317000 x317001 x317002 x317003 x318000 x318001 x318002 x318003 x328000 x328001 x328002 x328003)))) else (if (t335 != (!(x317000 == x318000) || (!(x317001 == x318001) || (!(x317002 == x318002) || (!(x317003.toList == x318003.toList)))))) = true then (laws_FnAhead.j1 k t334 true x317000 x317001 x317002 x317003 x318000 x318001 x318002 x318003 x328000 x328001 x328002 x328003) else ((spec_RecAhead.f k x317000 x317001 x317002 x317003 x318000 x318001 x318002 x318003).bind fun t337 => (laws_FnAhead.j1 k t334 (t334 != t337) x317000 x317001 x317002 x317003 x318000 x318001 x318002 x318003 x328000 x328001 x328002 x328003))))))
def laws_FnAhead.j1 : Nat → Bool → Bool → Bool → Int → Int → ByteArray → Bool → Int → Int → ByteArray → Bool → Int → Int → ByteArray → Option (Bool)
  | 0, _, _, _, _, _, _, _, _, _, _, _, _, _, _ => none
  | k + 1, x7, x73, x317000, x317001, x317002, x317003, x318000, x318001, x318002, x318003, x328000, x328001, x328002, x328003 => if x73 = true then (some false) else ((impl_RecPair.f k x317000 x317001 x317002 x317003 x318000 x318001 x318002 x318003).bind fun bt338 => ((impl_RecAhead.f k bt338.2.2.2.2.1 bt338.2.2.2.2.2.1 bt338.2.2.2.2.2.2.1 bt338.2.2.2.2.2.2.2 bt338.1 bt338.2.1 bt338.2.2.1 bt338.2.2.2.1).bind fun t348 => (if t348 = true then (laws_FnAhead.j2 k x7 true x317000 x317001 x317002 x317003 x318000 x318001 x318002 x318003 x328000 x328001 x328002 x328003) else (if (!(bt338.1 == x317000) || (!(bt338.2.1 == x317001) || (!(bt338.2.2.1 == x317002) || (!(bt338.2.2.2.1.toList == x317003.toList))))) = true then (if (!(bt338.1 == x318000) || (!(bt338.2.1 == x318001) || (!(bt338.2.2.1 == x318002) || (!(bt338.2.2.2.1.toList == x318003.toList))))) = true then (laws_FnAhead.j2 k x7 true x317000 x317001 x317002 x317003 x318000 x318001 x318002 x318003 x328000 x328001 x328002 x328003) else (if (!(bt338.2.2.2.2.1 == x317000) || (!(bt338.2.2.2.2.2.1 == x317001) || (!(bt338.2.2.2.2.2.2.1 == x317002) || (!(bt338.2.2.2.2.2.2.2.toList == x317003.toList))))) = true then (if (!(bt338.2.2.2.2.1 == x318000) || (!(bt338.2.2.2.2.2.1 == x318001) || (!(bt338.2.2.2.2.2.2.1 == x318002) || (!(bt338.2.2.2.2.2.2.2.toList == x318003.toList))))) = true then (laws_FnAhead.j2 k x7 true x317000 x317001 x317002 x317003 x318000 x318001 x318002 x318003 x328000 x328001 x328002 x328003) else (laws_FnAhead.j2 k x7 ((bt338.1 == bt338.2.2.2.2.1 && (bt338.2.1 == bt338.2.2.2.2.2.1 && (bt338.2.2.1 == bt338.2.2.2.2.2.2.1 && (bt338.2.2.2.1.toList == bt338.2.2.2.2.2.2.2.toList)))) != (x317000 == x318000 && (x317001 == x318001 && (x317002 == x318002 && (x317003.toList == x318003.toList))))) x317000 x317001 x317002 x317003 x318000 x318001 x318002 x318003 x328000 x328001 x328002 x328003)) else (laws_FnAhead.j2 k x7 ((bt338.1 == bt338.2.2.2.2.1 && (bt338.2.1 == bt338.2.2.2.2.2.1 && (bt338.2.2.1 == bt338.2.2.2.2.2.2.1 && (bt338.2.2.2.1.toList == bt338.2.2.2.2.2.2.2.toList)))) != (x317000 == x318000 && (x317001 == x318001 && (x317002 == x318002 && (x317003.toList == x318003.toList))))) x317000 x317001 x317002 x317003 x318000 x318001 x318002 x318003 x328000 x328001 x328002 x328003))) else (if (!(bt338.2.2.2.2.1 == x317000) || (!(bt338.2.2.2.2.2.1 == x317001) || (!(bt338.2.2.2.2.2.2.1 == x317002) || (!(bt338.2.2.2.2.2.2.2.toList == x317003.toList))))) = true then (if (!(bt338.2.2.2.2.1 == x318000) || (!(bt338.2.2.2.2.2.1 == x318001) || (!(bt338.2.2.2.2.2.2.1 == x318002) || (!(bt338.2.2.2.2.2.2.2.toList == x318003.toList))))) = true then (laws_FnAhead.j2 k x7 true x317000 x317001 x317002 x317003 x318000 x318001 x318002 x318003 x328000 x328001 x328002 x328003) else (laws_FnAhead.j2 k x7 ((bt338.1 == bt338.2.2.2.2.1 && (bt338.2.1 == bt338.2.2.2.2.2.1 && (bt338.2.2.1 == bt338.2.2.2.2.2.2.1 && (bt338.2.2.2.1.toList == bt338.2.2.2.2.2.2.2.toList)))) != (x317000 == x318000 && (x317001 == x318001 && (x317002 == x318002 && (x317003.toList == x318003.toList))))) x317000 x317001 x317002 x317003 x318000 x318001 x318002 x318003 x328000 x328001 x328002 x328003)) else (laws_FnAhead.j2 k x7 ((bt338.1 == bt338.2.2.2.2.1 && (bt338.2.1 == bt338.2.2.2.2.2.1 && (bt338.2.2.1 == bt338.2.2.2.2.2.2.1 && (bt338.2.2.2.1.toList == bt338.2.2.2.2.2.2.2.toList)))) != (x317000 == x318000 && (x317001 == x318001 && (x317002 == x318002 && (x317003.toList == x318003.toList))))) x317000 x317001 x317002 x317003 x318000 x318001 x318002 x318003 x328000 x328001 x328002 x328003))))))
def laws_FnAhead.j2 : Nat → Bool → Bool → Bool → Int → Int → ByteArray → Bool → Int → Int → ByteArray → Bool → Int → Int → ByteArray → Option (Bool)
  | 0, _, _, _, _, _, _, _, _, _, _, _, _, _, _ => none
  | k + 1, x7, x111, x317000, x317001, x317002, x317003, x318000, x318001, x318002, x318003, x328000, x328001, x328002, x328003 => if x111 = true then (some false) else (if x7 = true then ((impl_RecAhead.f k x318000 x318001 x318002 x318003 x328000 x328001 x328002 x328003).bind fun t349 => (if t349 = true then ((impl_RecAhead.f k x317000 x317001 x317002 x317003 x328000 x328001 x328002 x328003).bind fun t350 => (some t350)) else (some true))) else (some true))
end
def laws_FnAhead.f (k : Nat) (l0 : List Int) : Option (Bool) := (laws_big.f l0).bind fun t307 => (if t307 = true then (some true) else ((spec_DrawRecAhead.f k l0).bind fun bt308 => (if 0 ≤ (wrap64 ((l0.length : Int) / 3)) then (if (wrap64 ((l0.length : Int) / 3)) ≤ (l0.length : Int) then ((spec_DrawRecAhead.f k (l0.drop ((wrap64 ((l0.length : Int) / 3)) : Int).toNat)).bind fun bt319 => ((spec_RecOk.f k bt308.1 bt308.2.1 bt308.2.2.1 bt308.2.2.2.1).bind fun t329 => (if t329 = true then ((spec_RecOk.f k bt308.2.2.2.2.1 bt308.2.2.2.2.2.1 bt308.2.2.2.2.2.2.1 bt308.2.2.2.2.2.2.2).bind fun t330 => (if t330 = true then ((spec_RecOk.f k bt319.1 bt319.2.1 bt319.2.2.1 bt319.2.2.2.1).bind fun t331 => (laws_FnAhead.j0 k (!t331) bt308.1 bt308.2.1 bt308.2.2.1 bt308.2.2.2.1 bt308.2.2.2.2.1 bt308.2.2.2.2.2.1 bt308.2.2.2.2.2.2.1 bt308.2.2.2.2.2.2.2 bt319.1 bt319.2.1 bt319.2.2.1 bt319.2.2.2.1)) else (laws_FnAhead.j0 k true bt308.1 bt308.2.1 bt308.2.2.1 bt308.2.2.2.1 bt308.2.2.2.2.1 bt308.2.2.2.2.2.1 bt308.2.2.2.2.2.2.1 bt308.2.2.2.2.2.2.2 bt319.1 bt319.2.1 bt319.2.2.1 bt319.2.2.2.1))) else (laws_FnAhead.j0 k true bt308.1 bt308.2.1 bt308.2.2.1 bt308.2.2.2.1 bt308.2.2.2.2.1 bt308.2.2.2.2.2.1 bt308.2.2.2.2.2.2.1 bt308.2.2.2.2.2.2.2 bt319.1 bt319.2.1 bt319.2.2.1 bt319.2.2.2.1)))) else (none)) else (none))))
theorem laws_FnAhead.mono_l : ∀ k, (∀ y0 y1 y2 y3 y4 y5 y6 y7 y8 y9 y10 y11 y12, LeO (laws_FnAhead.j0 k y0 y1 y2 y3 y4 y5 y6 y7 y8 y9 y10 y11 y12) (laws_FnAhead.j0 (k + 1) y0 y1 y2 y3 y4 y5 y6 y7 y8 y9 y10 y11 y12)) ∧ (∀ y0 y1 y2 y3 y4 y5 y6 y7 y8 y9 y10 y11 y12 y13, LeO (laws_FnAhead.j1 k y0 y1 y2 y3 y4 y5 y6 y7 y8 y9 y10 y11 y12 y13) (laws_FnAhead.j1 (k + 1) y0 y1 y2 y3 y4 y5 y6 y7 y8 y9 y10 y11 y12 y13)) ∧ (∀ y0 y1 y2 y3 y4 y5 y6 y7 y8 y9 y10 y11 y12 y13, LeO (laws_FnAhead.j2 k y0 y1 y2 y3 y4 y5 y6 y7 y8 y9 y10 y11 y12 y13) (laws_FnAhead.j2 (k + 1) y0 y1 y2 y3 y4 y5 y6 y7 y8 y9 y10 y11 y12 y13))
  | 0 => ⟨fun _ _ _ _ _ _ _ _ _ _ _ _ _ r h => by simp [laws_FnAhead.j0] at h, fun _ _ _ _ _ _ _ _ _ _ _ _ _ _ r h => by simp [laws_FnAhead.j1] at h, fun _ _ _ _ _ _ _ _ _ _ _ _ _ _ r h => by simp [laws_FnAhead.j2] at h⟩
  | k + 1 => by
    obtain ⟨ih0, ih1, ih2⟩ := laws_FnAhead.mono_l k
    refine ⟨?_, ?_, ?_⟩
    · intro y0 y1 y2 y3 y4 y5 y6 y7 y8 y9 y10 y11 y12
      unfold laws_FnAhead.j0
      repeat' first | (with_reducible exact ih1 _ _ _ _ _ _ _ _ _ _ _ _ _ _) | (with_reducible exact impl_RecAhead.mono _ _ _ _ _ _ _ _ _) | (with_reducible exact spec_RecAhead.mono _ _ _ _ _ _ _ _ _) | (with_reducible exact LeO.refl _) | (with_reducible refine LeO.ite ?_ ?_) | (with_reducible refine LeO.bind ?_ (fun _ => ?_))
    · intro y0 y1 y2 y3 y4 y5 y6 y7 y8 y9 y10 y11 y12 y13
      unfold laws_FnAhead.j1
      repeat' first | (with_reducible exact ih2 _ _ _ _ _ _ _ _ _ _ _ _ _ _) | (with_reducible exact impl_RecAhead.mono _ _ _ _ _ _ _ _ _) | (with_reducible exact impl_RecPair.mono _ _ _ _ _ _ _ _ _) | (with_reducible exact LeO.refl _) | (with_reducible refine LeO.ite ?_ ?_) | (with_reducible refine LeO.bind ?_ (fun _ => ?_))
    · intro y0 y1 y2 y3 y4 y5 y6 y7 y8 y9 y10 y11 y12 y13
      unfold laws_FnAhead.j2
      repeat' first | (with_reducible exact impl_RecAhead.mono _ _ _ _ _ _ _ _ _) | (with_reducible exact LeO.refl _) | (with_reducible refine LeO.ite ?_ ?_) | (with_reducible refine LeO.bind ?_ (fun _ => ?_))
theorem laws_FnAhead.mono : ∀ a0 k, LeO (laws_FnAhead.f k a0) (laws_FnAhead.f (k + 1) a0) := by
  intro a0 k
  obtain ⟨ih0, ih1, ih2⟩ := laws_FnAhead.mono_l k
  unfold laws_FnAhead.f
  repeat' first | (with_reducible exact ih0 _ _ _ _ _ _ _ _ _ _ _ _ _) | (with_reducible exact spec_DrawRecAhead.mono _ _) | (with_reducible exact spec_RecOk.mono _ _ _ _ _) | (with_reducible exact LeO.refl _) | (with_reducible refine LeO.ite ?_ ?_) | (with_reducible refine LeO.bind ?_ (fun _ => ?_))
def laws_FnAhead.T6 : Bool × List (List Nat × List Nat) := (true, [([], []), ([], []), ([0, 1], [0, 1]), ([], []), ([], []), ([3, 4, 2], [3, 4]), ([2, 5], [2, 5]), ([6, 5, 0, 1, 2, 3, 4, 5, 6], [6])])
def laws_FnAhead.B6 : List Nat := [0, 0, 3, 0, 0, 31, 63, 127]
theorem laws_FnAhead.tab6 : rtab .any (opsOf Try.f3 6) = laws_FnAhead.T6 := by kernel_rfl
theorem laws_FnAhead.bits6 : waitsOk laws_FnAhead.T6.2 laws_FnAhead.B6 = true := by kernel_rfl
def laws_FnAhead.T12 : Bool × List (List Nat × List Nat) := (true, [([], []), ([], []), ([0, 1], [0, 1]), ([2, 2], [2]), ([3], [3]), ([3], [3]), ([4, 5, 3], [3, 4, 5]), ([6, 3, 3], [3, 6]), ([7], [7]), ([7], [7]), ([8, 9, 7], [7, 8, 9]), ([7, 10, 3], [3, 7, 10]), ([3, 11], [3, 11]), ([12, 7], [12]), ([13], [13]), ([13], [13]), ([14, 15, 13], [13, 14, 15]), ([16, 13, 13], [13, 16]), ([17], [17]), ([17], [17]), ([18, 19, 17], [17, 18, 19]), ([17, 20, 13], [13, 17, 20]), ([13, 21], [13, 21]), ([22, 17], [22]), ([23], [23]), ([23], [23]), ([24, 25, 23], [23, 24, 25]), ([23], [23]), ([23], [23]), ([27, 28, 23], [23, 27, 28]), ([26, 29, 23], [23, 26, 29]), ([23, 30], [23, 30])])
def laws_FnAhead.B12 : List Nat := [0, 0, 3, 7, 15, 15, 63, 127, 255, 255, 1023, 2047, 4095, 8191, 16383, 16383, 65535, 131071, 262143, 262143, 1048575, 2097151, 4194303, 8388607, 16777215, 16777215, 67108863, 16777215, 16777215, 419430399, 1073741823, 2147483647]
theorem laws_FnAhead.tab12 : rtab .any (opsOf Try.f3 12) = laws_FnAhead.T12 := by kernel_rfl
theorem laws_FnAhead.bits12 : waitsOk laws_FnAhead.T12.2 laws_FnAhead.B12 = true := by kernel_rfl
theorem laws_FnAhead.j2_no {k : Nat} {a0 : Bool} {a2 : Bool} {a3 : Int} {a4 : Int} {a5 : ByteArray} {a6 : Bool} {a7 : Int} {a8 : Int} {a9 : ByteArray} {a10 : Bool} {a11 : Int} {a12 : Int} {a13 : ByteArray} {r : Bool} (h : laws_FnAhead.j2 k a0 true a2 a3 a4 a5 a6 a7 a8 a9 a10 a11 a12 a13 = some r) (e : r = true) : False := by
  subst e
  cases k with
  | zero => simp [laws_FnAhead.j2] at h
  | succ k => simp [laws_FnAhead.j2] at h
theorem laws_FnAhead.j1_no {k : Nat} {a0 : Bool} {a2 : Bool} {a3 : Int} {a4 : Int} {a5 : ByteArray} {a6 : Bool} {a7 : Int} {a8 : Int} {a9 : ByteArray} {a10 : Bool} {a11 : Int} {a12 : Int} {a13 : ByteArray} {r : Bool} (h : laws_FnAhead.j1 k a0 true a2 a3 a4 a5 a6 a7 a8 a9 a10 a11 a12 a13 = some r) (e : r = true) : False := by
  subst e
  cases k with
  | zero => simp [laws_FnAhead.j1] at h
  | succ k => simp [laws_FnAhead.j1] at h
theorem b3_ {w : World} {g : Nat} {t : TypeId} {cs : Array Value} {v : Value} (h : w.heap[g]? = some (.cells cs t (0, 0))) (i : Nat) (hv : cs[i]? = some v) : w.cell? ⟨g, i, none⟩ = some v := (blk_cell h i).trans hv
set_option maxHeartbeats 8000000 in
set_option maxRecDepth 100000 in
theorem laws_FnAhead.calls (k : Nat) (A0 : Option Addr) (c0 : Nat) (l0 : List Int) (r : Bool) (w : World) (hr0 : Kd.C (Kd.int .u8) w A0 l0.length l0) (hc0 : l0.length ≤ c0) (h : laws_FnAhead.f k l0 = some r) (hT_ : r = true := by rfl) :
    Calls Try.prog 3 #[.slice A0 l0.length c0] w fun e w' => e = .returned (.bool r) ∧ Below w.heap.size w w' := by
 have HTRUE_ := Aside0.mk hT_
 clear hT_
 have hu25 := Try.underlying25
 have HR0 := Aside0.mk hr0
 have HC0 := Aside0.mk hc0
 clear hr0 hc0
 have HB := Aside0.mk (Below.refl w.heap.size w)
 have H : ((laws_big.f l0).bind fun t307 => (if t307 = true then (some true) else ((spec_DrawRecAhead.f k l0).bind fun bt308 => (if 0 ≤ (wrap64 ((l0.length : Int) / 3)) then (if (wrap64 ((l0.length : Int) / 3)) ≤ (l0.length : Int) then ((spec_DrawRecAhead.f k (l0.drop ((wrap64 ((l0.length : Int) / 3)) : Int).toNat)).bind fun bt319 => ((spec_RecOk.f k bt308.1 bt308.2.1 bt308.2.2.1 bt308.2.2.2.1).bind fun t329 => (if t329 = true then ((spec_RecOk.f k bt308.2.2.2.2.1 bt308.2.2.2.2.2.1 bt308.2.2.2.2.2.2.1 bt308.2.2.2.2.2.2.2).bind fun t330 => (if t330 = true then ((spec_RecOk.f k bt319.1 bt319.2.1 bt319.2.2.1 bt319.2.2.2.1).bind fun t331 => (laws_FnAhead.j0 k (!t331) bt308.1 bt308.2.1 bt308.2.2.1 bt308.2.2.2.1 bt308.2.2.2.2.1 bt308.2.2.2.2.2.1 bt308.2.2.2.2.2.2.1 bt308.2.2.2.2.2.2.2 bt319.1 bt319.2.1 bt319.2.2.1 bt319.2.2.2.1)) else (laws_FnAhead.j0 k true bt308.1 bt308.2.1 bt308.2.2.1 bt308.2.2.2.1 bt308.2.2.2.2.1 bt308.2.2.2.2.2.1 bt308.2.2.2.2.2.2.1 bt308.2.2.2.2.2.2.2 bt319.1 bt319.2.1 bt319.2.2.1 bt319.2.2.2.1))) else (laws_FnAhead.j0 k true bt308.1 bt308.2.1 bt308.2.2.1 bt308.2.2.2.1 bt308.2.2.2.2.1 bt308.2.2.2.2.2.1 bt308.2.2.2.2.2.2.1 bt308.2.2.2.2.2.2.2 bt319.1 bt319.2.1 bt319.2.2.1 bt319.2.2.2.1)))) else (none)) else (none))))) = some r := h
 clear h
 replace H := Option.bind_eq_some_iff.mp H
 obtain ⟨t307, A20, H⟩ := H
 replace H : (if t307 = true then (some true) else ((spec_DrawRecAhead.f k l0).bind fun bt308 => (if 0 ≤ (wrap64 ((l0.length : Int) / 3)) then (if (wrap64 ((l0.length : Int) / 3)) ≤ (l0.length : Int) then ((spec_DrawRecAhead.f k (l0.drop ((wrap64 ((l0.length : Int) / 3)) : Int).toNat)).bind fun bt319 => ((spec_RecOk.f k bt308.1 bt308.2.1 bt308.2.2.1 bt308.2.2.2.1).bind fun t329 => (if t329 = true then ((spec_RecOk.f k bt308.2.2.2.2.1 bt308.2.2.2.2.2.1 bt308.2.2.2.2.2.2.1 bt308.2.2.2.2.2.2.2).bind fun t330 => (if t330 = true then ((spec_RecOk.f k bt319.1 bt319.2.1 bt319.2.2.1 bt319.2.2.2.1).bind fun t331 => (laws_FnAhead.j0 k (!t331) bt308.1 bt308.2.1 bt308.2.2.1 bt308.2.2.2.1 bt308.2.2.2.2.1 bt308.2.2.2.2.2.1 bt308.2.2.2.2.2.2.1 bt308.2.2.2.2.2.2.2 bt319.1 bt319.2.1 bt319.2.2.1 bt319.2.2.2.1)) else (laws_FnAhead.j0 k true bt308.1 bt308.2.1 bt308.2.2.1 bt308.2.2.2.1 bt308.2.2.2.2.1 bt308.2.2.2.2.2.1 bt308.2.2.2.2.2.2.1 bt308.2.2.2.2.2.2.2 bt319.1 bt319.2.1 bt319.2.2.1 bt319.2.2.2.1))) else (laws_FnAhead.j0 k true bt308.1 bt308.2.1 bt308.2.2.1 bt308.2.2.2.1 bt308.2.2.2.2.1 bt308.2.2.2.2.2.1 bt308.2.2.2.2.2.2.1 bt308.2.2.2.2.2.2.2 bt319.1 bt319.2.1 bt319.2.2.1 bt319.2.2.2.1)))) else (none)) else (none)))) = some r := H
 have A2 := Aside0.mk A20
 clear A20
 by_cases c3 : t307 = true
 ·
  subst c3
  have H1 : (some true) = some r := by rw [if_pos rfl] at H; exact H
  clear H
  have H := H1
  clear H1
  obtain rfl := Option.some.inj H
  go_enter Try.func3, Try.ntmps3
  go_wp2_with (((with_reducible refine gate_callee (f := 4) rfl ?_); refine goesL_ (some 12) rfl rfl Try.func4 (by kernel_rfl) rfl #[.slice A0 l0.length c0] rfl (by (try simp only [List.map_toArray, List.map_cons, List.map_nil]); rfl) ?_; (with_reducible refine (laws_big.calls _ _ l0 true _ ?side1 ?side2 A2.out).mono ?_); (case side1 => repeat (exact HR0.out)); (case side2 => exact HC0.out); rintro e w' ⟨rfl, ⟨nd, rfl⟩⟩; refine ⟨_, rfl, ?_⟩))
  go_ret
  exact ⟨by rfl, by repeat ((with_reducible first | exact HB.out | apply pw_below_drewN))⟩
 replace c3 := Bool.eq_false_iff.mpr c3
 subst c3
 have H1 : ((spec_DrawRecAhead.f k l0).bind fun bt308 => (if 0 ≤ (wrap64 ((l0.length : Int) / 3)) then (if (wrap64 ((l0.length : Int) / 3)) ≤ (l0.length : Int) then ((spec_DrawRecAhead.f k (l0.drop ((wrap64 ((l0.length : Int) / 3)) : Int).toNat)).bind fun bt319 => ((spec_RecOk.f k bt308.1 bt308.2.1 bt308.2.2.1 bt308.2.2.2.1).bind fun t329 => (if t329 = true then ((spec_RecOk.f k bt308.2.2.2.2.1 bt308.2.2.2.2.2.1 bt308.2.2.2.2.2.2.1 bt308.2.2.2.2.2.2.2).bind fun t330 => (if t330 = true then ((spec_RecOk.f k bt319.1 bt319.2.1 bt319.2.2.1 bt319.2.2.2.1).bind fun t331 => (laws_FnAhead.j0 k (!t331) bt308.1 bt308.2.1 bt308.2.2.1 bt308.2.2.2.1 bt308.2.2.2.2.1 bt308.2.2.2.2.2.1 bt308.2.2.2.2.2.2.1 bt308.2.2.2.2.2.2.2 bt319.1 bt319.2.1 bt319.2.2.1 bt319.2.2.2.1)) else (laws_FnAhead.j0 k true bt308.1 bt308.2.1 bt308.2.2.1 bt308.2.2.2.1 bt308.2.2.2.2.1 bt308.2.2.2.2.2.1 bt308.2.2.2.2.2.2.1 bt308.2.2.2.2.2.2.2 bt319.1 bt319.2.1 bt319.2.2.1 bt319.2.2.2.1))) else (laws_FnAhead.j0 k true bt308.1 bt308.2.1 bt308.2.2.1 bt308.2.2.2.1 bt308.2.2.2.2.1 bt308.2.2.2.2.2.1 bt308.2.2.2.2.2.2.1 bt308.2.2.2.2.2.2.2 bt319.1 bt319.2.1 bt319.2.2.1 bt319.2.2.2.1)))) else (none)) else (none))) = some r := by rw [if_neg (show ¬ (false = true) by decide)] at H; exact H
 clear H
 have H := H1
 clear H1
 replace H := Option.bind_eq_some_iff.mp H
 obtain ⟨⟨t308, t309, t310, t311, t312, t313, t314, t315⟩, A40, H⟩ := H
 replace H : (if 0 ≤ (wrap64 ((l0.length : Int) / 3)) then (if (wrap64 ((l0.length : Int) / 3)) ≤ (l0.length : Int) then ((spec_DrawRecAhead.f k (l0.drop ((wrap64 ((l0.length : Int) / 3)) : Int).toNat)).bind fun bt319 => ((spec_RecOk.f k t308 t309 t310 t311).bind fun t329 => (if t329 = true then ((spec_RecOk.f k t312 t313 t314 t315).bind fun t330 => (if t330 = true then ((spec_RecOk.f k bt319.1 bt319.2.1 bt319.2.2.1 bt319.2.2.2.1).bind fun t331 => (laws_FnAhead.j0 k (!t331) t308 t309 t310 t311 t312 t313 t314 t315 bt319.1 bt319.2.1 bt319.2.2.1 bt319.2.2.2.1)) else (laws_FnAhead.j0 k true t308 t309 t310 t311 t312 t313 t314 t315 bt319.1 bt319.2.1 bt319.2.2.1 bt319.2.2.2.1))) else (laws_FnAhead.j0 k true t308 t309 t310 t311 t312 t313 t314 t315 bt319.1 bt319.2.1 bt319.2.2.1 bt319.2.2.2.1)))) else (none)) else (none)) = some r := H
 have A4 := Aside0.mk A40
 clear A40
 obtain ⟨ji5, hji5⟩ : ∃ j_ : Int, (wrap64 ((l0.length : Int) / 3)) = j_ := ⟨_, rfl⟩
 replace H : (if 0 ≤ (ji5) then (if (ji5) ≤ (l0.length : Int) then ((spec_DrawRecAhead.f k (l0.drop ((ji5) : Int).toNat)).bind fun bt319 => ((spec_RecOk.f k t308 t309 t310 t311).bind fun t329 => (if t329 = true then ((spec_RecOk.f k t312 t313 t314 t315).bind fun t330 => (if t330 = true then ((spec_RecOk.f k bt319.1 bt319.2.1 bt319.2.2.1 bt319.2.2.2.1).bind fun t331 => (laws_FnAhead.j0 k (!t331) t308 t309 t310 t311 t312 t313 t314 t315 bt319.1 bt319.2.1 bt319.2.2.1 bt319.2.2.2.1)) else (laws_FnAhead.j0 k true t308 t309 t310 t311 t312 t313 t314 t315 bt319.1 bt319.2.1 bt319.2.2.1 bt319.2.2.2.1))) else (laws_FnAhead.j0 k true t308 t309 t310 t311 t312 t313 t314 t315 bt319.1 bt319.2.1 bt319.2.2.1 bt319.2.2.2.1)))) else (none)) else (none)) = some r := by (rw [hji5] at H; exact H)
 (try rw [hji5] at A2)
 (try rw [hji5] at A4)
 have hji5w : (IntKind.i64.wrap ((l0.length : Int) / 3)) = ji5 := (i64_w _).trans hji5
 by_cases c6 : 0 ≤ (ji5)
 rotate_left
 ·
  rw [if_neg c6] at H
  exact absurd H (by simp)
 rw [if_pos c6] at H
 have c6b0 := eq_true c6
 have c6b1 : decide (0 ≤ (ji5)) = true := decide_eq_true c6
 clear c6
 by_cases c7 : (ji5) ≤ (l0.length : Int)
 rotate_left
 ·
  rw [if_neg c7] at H
  exact absurd H (by simp)
 rw [if_pos c7] at H
 have c7b0 := eq_true c7
 have c7b1 : decide ((ji5) ≤ (l0.length : Int)) = true := decide_eq_true c7
 clear c7
 replace H := Option.bind_eq_some_iff.mp H
 obtain ⟨⟨t319, t320, t321, t322, t323, t324, t325, t326⟩, A80, H⟩ := H
 replace H : ((spec_RecOk.f k t308 t309 t310 t311).bind fun t329 => (if t329 = true then ((spec_RecOk.f k t312 t313 t314 t315).bind fun t330 => (if t330 = true then ((spec_RecOk.f k t319 t320 t321 t322).bind fun t331 => (laws_FnAhead.j0 k (!t331) t308 t309 t310 t311 t312 t313 t314 t315 t319 t320 t321 t322)) else (laws_FnAhead.j0 k true t308 t309 t310 t311 t312 t313 t314 t315 t319 t320 t321 t322))) else (laws_FnAhead.j0 k true t308 t309 t310 t311 t312 t313 t314 t315 t319 t320 t321 t322))) = some r := H
 have A8 := Aside0.mk A80
 clear A80
 have HC9 := Aside0.mk H
 clear H
 go_enter Try.func3, Try.ntmps3
 go_upto_region 5 with (first | ((with_reducible refine gate_callee (f := 4) rfl ?_); refine goesL_ (some 12) rfl rfl Try.func4 (by kernel_rfl) rfl #[.slice A0 l0.length c0] rfl (by (try simp only [List.map_toArray, List.map_cons, List.map_nil]); rfl) ?_; (with_reducible refine (laws_big.calls _ _ l0 false _ ?side1 ?side2 A2.out).mono ?_); (case side1 => repeat (exact HR0.out)); (case side2 => exact HC0.out); rintro e w' ⟨rfl, ⟨nd, rfl⟩⟩; refine ⟨_, rfl, ?_⟩) | ((with_reducible refine gate_callee (f := 5) rfl ?_); refine goesL_ (some 15) rfl rfl Try.func5 (by kernel_rfl) rfl #[.slice A0 l0.length c0] rfl (by (try simp only [List.map_toArray, List.map_cons, List.map_nil]); rfl) ?_; (with_reducible refine (spec_DrawRecAhead.calls k _ _ l0 t308 t309 t310 t311 t312 t313 t314 t315 _ ?side1 ?side2 A4.out).mono ?_); (case side1 => repeat (exact HR0.out)); (case side2 => exact HC0.out); rintro e w10 ⟨rfl, hb⟩; refine ⟨_, rfl, ?_⟩; have n0_ := Aside0.mk (below_step (by repeat ((with_reducible first | exact HB.out | apply pw_below_drewN))) hb); replace HB := n0_; clear n0_; (try clear hb); (try clear hb2); (try clear hk); (try clear hi)) | ((with_reducible refine gate_dst (N := 3) rfl ?_); refine box_event ?hg (N := 3) ?hd (cs := #[.bool false, .int .i64 0, .int .i64 0, .string (⟨#[]⟩ : ByteArray)]) (t := 25) ?hr ?_; (case hd => rfl); (case hg => rfl); (case hr => (go_simp; done)); intro gb316 hg w11 hbox hb; have n0_ := Aside0.mk (below_step (by repeat ((with_reducible exact HB.out))) hb); have n1_ := Aside0.mk (hbox); have n2_ := Aside0.mk ((by rw [hg]; exact (below_size (by repeat ((with_reducible exact HB.out)))) : w.heap.size ≤ gb316)); have n3_ := Aside0.mk ((by rw [hg]; exact (below_size (by repeat ((with_reducible exact HB.out)))) : w.heap.size ≤ gb316)); replace HB := n0_; have BK316 := n1_; have GW316 := n2_; have GE316 := n3_; clear n0_ n1_ n2_ n3_; clear hb hbox hg) | ((with_reducible refine gate_dst (N := 4) rfl ?_); refine box_event ?hg (N := 4) ?hd (cs := #[.bool false, .int .i64 0, .int .i64 0, .string (⟨#[]⟩ : ByteArray)]) (t := 25) ?hr ?_; (case hd => rfl); (case hg => rfl); (case hr => (go_simp; done)); intro gb317 hg w12 hbox hb; have n0_ := Aside0.mk (blk_below BK316.out hb); have n1_ := Aside0.mk (below_step (by repeat ((with_reducible exact HB.out))) hb); have n2_ := Aside0.mk (hbox); have n3_ := Aside0.mk ((by rw [hg]; exact (below_size (by repeat ((with_reducible exact HB.out)))) : w.heap.size ≤ gb317)); have n4_ := Aside0.mk ((by rw [hg]; exact (below_size (by repeat ((with_reducible exact HB.out)))) : w.heap.size ≤ gb317)); have n5_ := Aside0.mk ((by rw [hg]; exact Nat.ne_of_lt (blk_lt BK316.out) : gb316 ≠ gb317)); have n6_ := Aside0.mk ((by rw [hg]; exact Nat.ne_of_gt (blk_lt BK316.out) : gb317 ≠ gb316)); replace BK316 := n0_; replace HB := n1_; have BK317 := n2_; have GW317 := n3_; have GE317 := n4_; have NB316_317 := n5_; have NB317_316 := n6_; clear n0_ n1_ n2_ n3_ n4_ n5_ n6_; clear hb hbox hg; have hnb13 := NB316_317.out; have hnc13 := NB317_316.out; have hcz14_0 : w12.cell? ⟨gb316, 0, none⟩ = some (.bool false) := b3_ BK316.out 0 rfl; have hcz14_1 : w12.cell? ⟨gb316, 1, none⟩ = some (.int .i64 0) := b3_ BK316.out 1 rfl; have hcz14_2 : w12.cell? ⟨gb316, 2, none⟩ = some (.int .i64 0) := b3_ BK316.out 2 rfl; have hcz14_3 : w12.cell? ⟨gb316, 3, none⟩ = some (.string (⟨#[]⟩ : ByteArray)) := b3_ BK316.out 3 rfl; have hfz14_0 := blk_frozen BK316.out 0; have hfz14_1 := blk_frozen BK316.out 1; have hfz14_2 := blk_frozen BK316.out 2; have hfz14_3 := blk_frozen BK316.out 3; have hcz15_0 : w12.cell? ⟨gb317, 0, none⟩ = some (.bool false) := b3_ BK317.out 0 rfl; have hcz15_1 : w12.cell? ⟨gb317, 1, none⟩ = some (.int .i64 0) := b3_ BK317.out 1 rfl; have hcz15_2 : w12.cell? ⟨gb317, 2, none⟩ = some (.int .i64 0) := b3_ BK317.out 2 rfl; have hcz15_3 : w12.cell? ⟨gb317, 3, none⟩ = some (.string (⟨#[]⟩ : ByteArray)) := b3_ BK317.out 3 rfl; have hfz15_0 := blk_frozen BK317.out 0; have hfz15_1 := blk_frozen BK317.out 1; have hfz15_2 := blk_frozen BK317.out 2; have hfz15_3 := blk_frozen BK317.out 3; obtain ⟨i016, hi016, _, hsz16, _⟩ := info_parts info5; obtain ⟨A16, hcut16, hA16, hC16⟩ := print_drop_of (P := Try.prog) (Value.int .u8) 0 22 5 .i64 Try.underlying22 hi016 hsz16 A0 c0 l0 (ji5) (of_decide_eq_true (by (with_reducible assumption))) (of_decide_eq_true (by (with_reducible assumption))) HC0.out; have HR318 := Aside0.mk (Kd.C_of_reads (h1 := fun _ => rfl) (hA16 _ (Kd.reads_of_C HR0.out))); have HC318 := Aside0.mk hC16; clear hA16 hC16 hi016 hsz16) | ((with_reducible refine gate_callee (f := 5) rfl ?_); refine goesL_ (some 24) rfl rfl Try.func5 (by kernel_rfl) rfl #[.slice A16 (l0.drop ((ji5) : Int).toNat).length (c0 - (ji5).toNat)] rfl (by (try simp only [List.map_toArray, List.map_cons, List.map_nil]); (rw [show (l0.drop ((ji5) : Int).toNat).length = (l0.length - (ji5).toNat) from List.length_drop] <;> rfl)) ?_; (with_reducible refine (spec_DrawRecAhead.calls k _ _ (l0.drop ((ji5) : Int).toNat) t319 t320 t321 t322 t323 t324 t325 t326 _ ?side1 ?side2 A8.out).mono ?_); (case side1 => exact Kd.C_below HR318.out (by repeat ((with_reducible first | exact HB.out | refine below_set ?_ GE316.out | refine below_set ?_ GE317.out)))); (case side2 => exact HC318.out); rintro e w17 ⟨rfl, hb⟩; refine ⟨_, rfl, ?_⟩; have n0_ := Aside0.mk (blk_below (g := gb316) (o := .cells #[.bool t308, .int .i64 t309, .int .i64 t310, .string t311] 25 (0, 0)) (by (with_reducible repeat (first | refine blk_drewN ?_ _ | refine blk_drew ?_ | refine blk_alloc ?_ _)); refine blk_far ?_ NB316_317.out _; (with_reducible repeat (first | refine blk_drewN ?_ _ | refine blk_drew ?_ | refine blk_alloc ?_ _)); refine blk_far ?_ NB316_317.out _; (with_reducible repeat (first | refine blk_drewN ?_ _ | refine blk_drew ?_ | refine blk_alloc ?_ _)); refine blk_far ?_ NB316_317.out _; (with_reducible repeat (first | refine blk_drewN ?_ _ | refine blk_drew ?_ | refine blk_alloc ?_ _)); refine blk_far ?_ NB316_317.out _; (with_reducible repeat (first | refine blk_drewN ?_ _ | refine blk_drew ?_ | refine blk_alloc ?_ _)); refine blk_put (cs := #[.bool t308, .int .i64 t309, .int .i64 t310, .string (⟨#[]⟩ : ByteArray)]) ?_ 3 _ rfl; (with_reducible repeat (first | refine blk_drewN ?_ _ | refine blk_drew ?_ | refine blk_alloc ?_ _)); refine blk_put (cs := #[.bool t308, .int .i64 t309, .int .i64 0, .string (⟨#[]⟩ : ByteArray)]) ?_ 2 _ rfl; (with_reducible repeat (first | refine blk_drewN ?_ _ | refine blk_drew ?_ | refine blk_alloc ?_ _)); refine blk_put (cs := #[.bool t308, .int .i64 0, .int .i64 0, .string (⟨#[]⟩ : ByteArray)]) ?_ 1 _ rfl; (with_reducible repeat (first | refine blk_drewN ?_ _ | refine blk_drew ?_ | refine blk_alloc ?_ _)); refine blk_put (cs := #[.bool false, .int .i64 0, .int .i64 0, .string (⟨#[]⟩ : ByteArray)]) ?_ 0 _ rfl; (with_reducible repeat (first | refine blk_drewN ?_ _ | refine blk_drew ?_ | refine blk_alloc ?_ _)); exact BK316.out) hb); have n1_ := Aside0.mk (blk_below (g := gb317) (o := .cells #[.bool t312, .int .i64 t313, .int .i64 t314, .string t315] 25 (0, 0)) (by (with_reducible repeat (first | refine blk_drewN ?_ _ | refine blk_drew ?_ | refine blk_alloc ?_ _)); refine blk_put (cs := #[.bool t312, .int .i64 t313, .int .i64 t314, .string (⟨#[]⟩ : ByteArray)]) ?_ 3 _ rfl; (with_reducible repeat (first | refine blk_drewN ?_ _ | refine blk_drew ?_ | refine blk_alloc ?_ _)); refine blk_put (cs := #[.bool t312, .int .i64 t313, .int .i64 0, .string (⟨#[]⟩ : ByteArray)]) ?_ 2 _ rfl; (with_reducible repeat (first | refine blk_drewN ?_ _ | refine blk_drew ?_ | refine blk_alloc ?_ _)); refine blk_put (cs := #[.bool t312, .int .i64 0, .int .i64 0, .string (⟨#[]⟩ : ByteArray)]) ?_ 1 _ rfl; (with_reducible repeat (first | refine blk_drewN ?_ _ | refine blk_drew ?_ | refine blk_alloc ?_ _)); refine blk_put (cs := #[.bool false, .int .i64 0, .int .i64 0, .string (⟨#[]⟩ : ByteArray)]) ?_ 0 _ rfl; (with_reducible repeat (first | refine blk_drewN ?_ _ | refine blk_drew ?_ | refine blk_alloc ?_ _)); refine blk_far ?_ NB317_316.out _; (with_reducible repeat (first | refine blk_drewN ?_ _ | refine blk_drew ?_ | refine blk_alloc ?_ _)); refine blk_far ?_ NB317_316.out _; (with_reducible repeat (first | refine blk_drewN ?_ _ | refine blk_drew ?_ | refine blk_alloc ?_ _)); refine blk_far ?_ NB317_316.out _; (with_reducible repeat (first | refine blk_drewN ?_ _ | refine blk_drew ?_ | refine blk_alloc ?_ _)); refine blk_far ?_ NB317_316.out _; (with_reducible repeat (first | refine blk_drewN ?_ _ | refine blk_drew ?_ | refine blk_alloc ?_ _)); exact BK317.out) hb); have n2_ := Aside0.mk (below_step (by repeat ((with_reducible first | exact HB.out | refine below_set ?_ GE316.out | refine below_set ?_ GE317.out))) hb); replace BK316 := n0_; replace BK317 := n1_; replace HB := n2_; clear n0_ n1_ n2_; (try clear hb); (try clear hb2); (try clear hk); (try clear hi)) | ((with_reducible refine gate_dst (N := 5) rfl ?_); refine box_event ?hg (N := 5) ?hd (cs := #[.bool false, .int .i64 0, .int .i64 0, .string (⟨#[]⟩ : ByteArray)]) (t := 25) ?hr ?_; (case hd => rfl); (case hg => rfl); (case hr => (go_simp; done)); intro gb327 hg w18 hbox hb; have n0_ := Aside0.mk (blk_below BK316.out hb); have n1_ := Aside0.mk (blk_below BK317.out hb); have n2_ := Aside0.mk (below_step (by repeat ((with_reducible exact HB.out))) hb); have n3_ := Aside0.mk (hbox); have n4_ := Aside0.mk ((by rw [hg]; exact (below_size (by repeat ((with_reducible exact HB.out)))) : w.heap.size ≤ gb327)); have n5_ := Aside0.mk ((by rw [hg]; exact (below_size (by repeat ((with_reducible exact HB.out)))) : w.heap.size ≤ gb327)); have n6_ := Aside0.mk ((by rw [hg]; exact Nat.ne_of_lt (blk_lt BK316.out) : gb316 ≠ gb327)); have n7_ := Aside0.mk ((by rw [hg]; exact Nat.ne_of_gt (blk_lt BK316.out) : gb327 ≠ gb316)); have n8_ := Aside0.mk ((by rw [hg]; exact Nat.ne_of_lt (blk_lt BK317.out) : gb317 ≠ gb327)); have n9_ := Aside0.mk ((by rw [hg]; exact Nat.ne_of_gt (blk_lt BK317.out) : gb327 ≠ gb317)); replace BK316 := n0_; replace BK317 := n1_; replace HB := n2_; have BK327 := n3_; have GW327 := n4_; have GE327 := n5_; have NB316_327 := n6_; have NB327_316 := n7_; have NB317_327 := n8_; have NB327_317 := n9_; clear n0_ n1_ n2_ n3_ n4_ n5_ n6_ n7_ n8_ n9_; clear hb hbox hg) | ((with_reducible refine gate_dst (N := 6) rfl ?_); refine box_event ?hg (N := 6) ?hd (cs := #[.bool false, .int .i64 0, .int .i64 0, .string (⟨#[]⟩ : ByteArray)]) (t := 25) ?hr ?_; (case hd => rfl); (case hg => rfl); (case hr => (go_simp; done)); intro gb328 hg w19 hbox hb; have n0_ := Aside0.mk (blk_below BK316.out hb); have n1_ := Aside0.mk (blk_below BK317.out hb); have n2_ := Aside0.mk (blk_below BK327.out hb); have n3_ := Aside0.mk (below_step (by repeat ((with_reducible exact HB.out))) hb); have n4_ := Aside0.mk (hbox); have n5_ := Aside0.mk ((by rw [hg]; exact (below_size (by repeat ((with_reducible exact HB.out)))) : w.heap.size ≤ gb328)); have n6_ := Aside0.mk ((by rw [hg]; exact (below_size (by repeat ((with_reducible exact HB.out)))) : w.heap.size ≤ gb328)); have n7_ := Aside0.mk ((by rw [hg]; exact Nat.ne_of_lt (blk_lt BK316.out) : gb316 ≠ gb328)); have n8_ := Aside0.mk ((by rw [hg]; exact Nat.ne_of_gt (blk_lt BK316.out) : gb328 ≠ gb316)); have n9_ := Aside0.mk ((by rw [hg]; exact Nat.ne_of_lt (blk_lt BK317.out) : gb317 ≠ gb328)); have n10_ := Aside0.mk ((by rw [hg]; exact Nat.ne_of_gt (blk_lt BK317.out) : gb328 ≠ gb317)); have n11_ := Aside0.mk ((by rw [hg]; exact Nat.ne_of_lt (blk_lt BK327.out) : gb327 ≠ gb328)); have n12_ := Aside0.mk ((by rw [hg]; exact Nat.ne_of_gt (blk_lt BK327.out) : gb328 ≠ gb327)); replace BK316 := n0_; replace BK317 := n1_; replace BK327 := n2_; replace HB := n3_; have BK328 := n4_; have GW328 := n5_; have GE328 := n6_; have NB316_328 := n7_; have NB328_316 := n8_; have NB317_328 := n9_; have NB328_317 := n10_; have NB327_328 := n11_; have NB328_327 := n12_; clear n0_ n1_ n2_ n3_ n4_ n5_ n6_ n7_ n8_ n9_ n10_ n11_ n12_; clear hb hbox hg; have hnb20 := NB327_316.out; have hnc20 := NB316_327.out; have hnb21 := NB327_317.out; have hnc21 := NB317_327.out; have hnb22 := NB327_328.out; have hnc22 := NB328_327.out; have hcz23_0 : w19.cell? ⟨gb327, 0, none⟩ = some (.bool false) := b3_ BK327.out 0 rfl; have hcz23_1 : w19.cell? ⟨gb327, 1, none⟩ = some (.int .i64 0) := b3_ BK327.out 1 rfl; have hcz23_2 : w19.cell? ⟨gb327, 2, none⟩ = some (.int .i64 0) := b3_ BK327.out 2 rfl; have hcz23_3 : w19.cell? ⟨gb327, 3, none⟩ = some (.string (⟨#[]⟩ : ByteArray)) := b3_ BK327.out 3 rfl; have hfz23_0 := blk_frozen BK327.out 0; have hfz23_1 := blk_frozen BK327.out 1; have hfz23_2 := blk_frozen BK327.out 2; have hfz23_3 := blk_frozen BK327.out 3; have hnb24 := NB328_316.out; have hnc24 := NB316_328.out; have hnb25 := NB328_317.out; have hnc25 := NB317_328.out; have hcz26_0 : w19.cell? ⟨gb328, 0, none⟩ = some (.bool false) := b3_ BK328.out 0 rfl; have hcz26_1 : w19.cell? ⟨gb328, 1, none⟩ = some (.int .i64 0) := b3_ BK328.out 1 rfl; have hcz26_2 : w19.cell? ⟨gb328, 2, none⟩ = some (.int .i64 0) := b3_ BK328.out 2 rfl; have hcz26_3 : w19.cell? ⟨gb328, 3, none⟩ = some (.string (⟨#[]⟩ : ByteArray)) := b3_ BK328.out 3 rfl; have hfz26_0 := blk_frozen BK328.out 0; have hfz26_1 := blk_frozen BK328.out 1; have hfz26_2 := blk_frozen BK328.out 2; have hfz26_3 := blk_frozen BK328.out 3))
 (try simp only [Act.put, List.setIfInBounds_toArray, List.set_cons_zero, List.set_cons_succ])
 go_cut [39] (fun v39 wc => ∃ (kq : Nat) (x39_8 : Bool), v39 = .bool x39_8 ∧ Aside0 (laws_FnAhead.j0 kq x39_8 t308 t309 t310 t311 t312 t313 t314 t315 t319 t320 t321 t322 = some r) ∧ Aside0 (kq ≤ k) ∧ Aside0 (wc.heap[gb316]? = some (.cells #[.bool t308, .int .i64 t309, .int .i64 t310, .string t311] 25 (0, 0))) ∧ Aside0 (wc.heap[gb317]? = some (.cells #[.bool t312, .int .i64 t313, .int .i64 t314, .string t315] 25 (0, 0))) ∧ Aside0 (wc.heap[gb327]? = some (.cells #[.bool t319, .int .i64 t320, .int .i64 t321, .string t322] 25 (0, 0))) ∧ Aside0 (wc.heap[gb328]? = some (.cells #[.bool t323, .int .i64 t324, .int .i64 t325, .string t326] 25 (0, 0))) ∧ Aside0 (Below w.heap.size w wc))
 case first =>
  have H := HC9.out
  clear HC9
  replace H := Option.bind_eq_some_iff.mp H
  obtain ⟨t329, A270, H⟩ := H
  replace H : (if t329 = true then ((spec_RecOk.f k t312 t313 t314 t315).bind fun t330 => (if t330 = true then ((spec_RecOk.f k t319 t320 t321 t322).bind fun t331 => (laws_FnAhead.j0 k (!t331) t308 t309 t310 t311 t312 t313 t314 t315 t319 t320 t321 t322)) else (laws_FnAhead.j0 k true t308 t309 t310 t311 t312 t313 t314 t315 t319 t320 t321 t322))) else (laws_FnAhead.j0 k true t308 t309 t310 t311 t312 t313 t314 t315 t319 t320 t321 t322)) = some r := H
  have A27 := Aside0.mk A270
  clear A270
  by_cases c28 : t329 = true
  rotate_left
  ·
   replace c28 := Bool.eq_false_iff.mpr c28
   subst c28
   have H1 : (laws_FnAhead.j0 k true t308 t309 t310 t311 t312 t313 t314 t315 t319 t320 t321 t322) = some r := by rw [if_neg (show ¬ (false = true) by decide)] at H; exact H
   clear H
   have H := H1
   clear H1
   have H' := Aside0.mk H
   clear H
   have hnb53 := NB316_317.out
   have hnc53 := NB317_316.out
   have hnb54 := NB316_327.out
   have hnc54 := NB327_316.out
   have hnb55 := NB316_328.out
   have hnc55 := NB328_316.out
   have hcz56_0 : w19.cell? ⟨gb316, 0, none⟩ = some (.bool t308) := b3_ BK316.out 0 rfl
   have hcz56_1 : w19.cell? ⟨gb316, 1, none⟩ = some (.int .i64 t309) := b3_ BK316.out 1 rfl
   have hcz56_2 : w19.cell? ⟨gb316, 2, none⟩ = some (.int .i64 t310) := b3_ BK316.out 2 rfl
   have hcz56_3 : w19.cell? ⟨gb316, 3, none⟩ = some (.string t311) := b3_ BK316.out 3 rfl
   have hfz56_0 := blk_frozen BK316.out 0
   have hfz56_1 := blk_frozen BK316.out 1
   have hfz56_2 := blk_frozen BK316.out 2
   have hfz56_3 := blk_frozen BK316.out 3
   go_wp2_with (((with_reducible refine gate_callee (f := 6) rfl ?_); refine goesL_ (some 28) rfl rfl Try.func6 (by kernel_rfl) rfl #[.agg #[.bool t308, .int .i64 t309, .int .i64 t310, .string t311]] rfl (by (try simp only [List.map_toArray, List.map_cons, List.map_nil]); rfl) ?_; (with_reducible refine (spec_RecOk.calls k t308 t309 t310 t311 false _ A27.out).mono ?_); rintro e w57 ⟨rfl, hb⟩; refine ⟨_, rfl, ?_⟩; have n0_ := Aside0.mk (blk_below (g := gb316) (o := .cells #[.bool t308, .int .i64 t309, .int .i64 t310, .string t311] 25 (0, 0)) (by (with_reducible repeat (first | refine blk_drewN ?_ _ | refine blk_drew ?_ | refine blk_alloc ?_ _)); refine blk_far ?_ NB316_328.out _; (with_reducible repeat (first | refine blk_drewN ?_ _ | refine blk_drew ?_ | refine blk_alloc ?_ _)); refine blk_far ?_ NB316_328.out _; (with_reducible repeat (first | refine blk_drewN ?_ _ | refine blk_drew ?_ | refine blk_alloc ?_ _)); refine blk_far ?_ NB316_328.out _; (with_reducible repeat (first | refine blk_drewN ?_ _ | refine blk_drew ?_ | refine blk_alloc ?_ _)); refine blk_far ?_ NB316_328.out _; (with_reducible repeat (first | refine blk_drewN ?_ _ | refine blk_drew ?_ | refine blk_alloc ?_ _)); refine blk_far ?_ NB316_327.out _; (with_reducible repeat (first | refine blk_drewN ?_ _ | refine blk_drew ?_ | refine blk_alloc ?_ _)); refine blk_far ?_ NB316_327.out _; (with_reducible repeat (first | refine blk_drewN ?_ _ | refine blk_drew ?_ | refine blk_alloc ?_ _)); refine blk_far ?_ NB316_327.out _; (with_reducible repeat (first | refine blk_drewN ?_ _ | refine blk_drew ?_ | refine blk_alloc ?_ _)); refine blk_far ?_ NB316_327.out _; (with_reducible repeat (first | refine blk_drewN ?_ _ | refine blk_drew ?_ | refine blk_alloc ?_ _)); exact BK316.out) hb); have n1_ := Aside0.mk (blk_below (g := gb317) (o := .cells #[.bool t312, .int .i64 t313, .int .i64 t314, .string t315] 25 (0, 0)) (by (with_reducible repeat (first | refine blk_drewN ?_ _ | refine blk_drew ?_ | refine blk_alloc ?_ _)); refine blk_far ?_ NB317_328.out _; (with_reducible repeat (first | refine blk_drewN ?_ _ | refine blk_drew ?_ | refine blk_alloc ?_ _)); refine blk_far ?_ NB317_328.out _; (with_reducible repeat (first | refine blk_drewN ?_ _ | refine blk_drew ?_ | refine blk_alloc ?_ _)); refine blk_far ?_ NB317_328.out _; (with_reducible repeat (first | refine blk_drewN ?_ _ | refine blk_drew ?_ | refine blk_alloc ?_ _)); refine blk_far ?_ NB317_328.out _; (with_reducible repeat (first | refine blk_drewN ?_ _ | refine blk_drew ?_ | refine blk_alloc ?_ _)); refine blk_far ?_ NB317_327.out _; (with_reducible repeat (first | refine blk_drewN ?_ _ | refine blk_drew ?_ | refine blk_alloc ?_ _)); refine blk_far ?_ NB317_327.out _; (with_reducible repeat (first | refine blk_drewN ?_ _ | refine blk_drew ?_ | refine blk_alloc ?_ _)); refine blk_far ?_ NB317_327.out _; (with_reducible repeat (first | refine blk_drewN ?_ _ | refine blk_drew ?_ | refine blk_alloc ?_ _)); refine blk_far ?_ NB317_327.out _; (with_reducible repeat (first | refine blk_drewN ?_ _ | refine blk_drew ?_ | refine blk_alloc ?_ _)); exact BK317.out) hb); have n2_ := Aside0.mk (blk_below (g := gb327) (o := .cells #[.bool t319, .int .i64 t320, .int .i64 t321, .string t322] 25 (0, 0)) (by (with_reducible repeat (first | refine blk_drewN ?_ _ | refine blk_drew ?_ | refine blk_alloc ?_ _)); refine blk_far ?_ NB327_328.out _; (with_reducible repeat (first | refine blk_drewN ?_ _ | refine blk_drew ?_ | refine blk_alloc ?_ _)); refine blk_far ?_ NB327_328.out _; (with_reducible repeat (first | refine blk_drewN ?_ _ | refine blk_drew ?_ | refine blk_alloc ?_ _)); refine blk_far ?_ NB327_328.out _; (with_reducible repeat (first | refine blk_drewN ?_ _ | refine blk_drew ?_ | refine blk_alloc ?_ _)); refine blk_far ?_ NB327_328.out _; (with_reducible repeat (first | refine blk_drewN ?_ _ | refine blk_drew ?_ | refine blk_alloc ?_ _)); refine blk_put (cs := #[.bool t319, .int .i64 t320, .int .i64 t321, .string (⟨#[]⟩ : ByteArray)]) ?_ 3 _ rfl; (with_reducible repeat (first | refine blk_drewN ?_ _ | refine blk_drew ?_ | refine blk_alloc ?_ _)); refine blk_put (cs := #[.bool t319, .int .i64 t320, .int .i64 0, .string (⟨#[]⟩ : ByteArray)]) ?_ 2 _ rfl; (with_reducible repeat (first | refine blk_drewN ?_ _ | refine blk_drew ?_ | refine blk_alloc ?_ _)); refine blk_put (cs := #[.bool t319, .int .i64 0, .int .i64 0, .string (⟨#[]⟩ : ByteArray)]) ?_ 1 _ rfl; (with_reducible repeat (first | refine blk_drewN ?_ _ | refine blk_drew ?_ | refine blk_alloc ?_ _)); refine blk_put (cs := #[.bool false, .int .i64 0, .int .i64 0, .string (⟨#[]⟩ : ByteArray)]) ?_ 0 _ rfl; (with_reducible repeat (first | refine blk_drewN ?_ _ | refine blk_drew ?_ | refine blk_alloc ?_ _)); exact BK327.out) hb); have n3_ := Aside0.mk (blk_below (g := gb328) (o := .cells #[.bool t323, .int .i64 t324, .int .i64 t325, .string t326] 25 (0, 0)) (by (with_reducible repeat (first | refine blk_drewN ?_ _ | refine blk_drew ?_ | refine blk_alloc ?_ _)); refine blk_put (cs := #[.bool t323, .int .i64 t324, .int .i64 t325, .string (⟨#[]⟩ : ByteArray)]) ?_ 3 _ rfl; (with_reducible repeat (first | refine blk_drewN ?_ _ | refine blk_drew ?_ | refine blk_alloc ?_ _)); refine blk_put (cs := #[.bool t323, .int .i64 t324, .int .i64 0, .string (⟨#[]⟩ : ByteArray)]) ?_ 2 _ rfl; (with_reducible repeat (first | refine blk_drewN ?_ _ | refine blk_drew ?_ | refine blk_alloc ?_ _)); refine blk_put (cs := #[.bool t323, .int .i64 0, .int .i64 0, .string (⟨#[]⟩ : ByteArray)]) ?_ 1 _ rfl; (with_reducible repeat (first | refine blk_drewN ?_ _ | refine blk_drew ?_ | refine blk_alloc ?_ _)); refine blk_put (cs := #[.bool false, .int .i64 0, .int .i64 0, .string (⟨#[]⟩ : ByteArray)]) ?_ 0 _ rfl; (with_reducible repeat (first | refine blk_drewN ?_ _ | refine blk_drew ?_ | refine blk_alloc ?_ _)); refine blk_far ?_ NB328_327.out _; (with_reducible repeat (first | refine blk_drewN ?_ _ | refine blk_drew ?_ | refine blk_alloc ?_ _)); refine blk_far ?_ NB328_327.out _; (with_reducible repeat (first | refine blk_drewN ?_ _ | refine blk_drew ?_ | refine blk_alloc ?_ _)); refine blk_far ?_ NB328_327.out _; (with_reducible repeat (first | refine blk_drewN ?_ _ | refine blk_drew ?_ | refine blk_alloc ?_ _)); refine blk_far ?_ NB328_327.out _; (with_reducible repeat (first | refine blk_drewN ?_ _ | refine blk_drew ?_ | refine blk_alloc ?_ _)); exact BK328.out) hb); have n4_ := Aside0.mk (below_step (by repeat ((with_reducible first | exact HB.out | refine below_set ?_ GE327.out | refine below_set ?_ GE328.out))) hb); replace BK316 := n0_; replace BK317 := n1_; replace BK327 := n2_; replace BK328 := n3_; replace HB := n4_; clear n0_ n1_ n2_ n3_ n4_; (try clear hb); (try clear hb2); (try clear hk); (try clear hi)))
   go_meet
   case rel => exact ⟨_, (true), (by rfl), H', ⟨by omega⟩, ⟨by (with_reducible repeat (first | refine blk_drewN ?_ _ | refine blk_drew ?_ | refine blk_alloc ?_ _)); exact BK316.out⟩, ⟨by (with_reducible repeat (first | refine blk_drewN ?_ _ | refine blk_drew ?_ | refine blk_alloc ?_ _)); exact BK317.out⟩, ⟨by (with_reducible repeat (first | refine blk_drewN ?_ _ | refine blk_drew ?_ | refine blk_alloc ?_ _)); exact BK327.out⟩, ⟨by (with_reducible repeat (first | refine blk_drewN ?_ _ | refine blk_drew ?_ | refine blk_alloc ?_ _)); exact BK328.out⟩, ⟨by repeat ((with_reducible exact HB.out))⟩⟩
  subst c28
  have H1 : ((spec_RecOk.f k t312 t313 t314 t315).bind fun t330 => (if t330 = true then ((spec_RecOk.f k t319 t320 t321 t322).bind fun t331 => (laws_FnAhead.j0 k (!t331) t308 t309 t310 t311 t312 t313 t314 t315 t319 t320 t321 t322)) else (laws_FnAhead.j0 k true t308 t309 t310 t311 t312 t313 t314 t315 t319 t320 t321 t322))) = some r := by rw [if_pos rfl] at H; exact H
  clear H
  have H := H1
  clear H1
  replace H := Option.bind_eq_some_iff.mp H
  obtain ⟨t330, A290, H⟩ := H
  replace H : (if t330 = true then ((spec_RecOk.f k t319 t320 t321 t322).bind fun t331 => (laws_FnAhead.j0 k (!t331) t308 t309 t310 t311 t312 t313 t314 t315 t319 t320 t321 t322)) else (laws_FnAhead.j0 k true t308 t309 t310 t311 t312 t313 t314 t315 t319 t320 t321 t322)) = some r := H
  have A29 := Aside0.mk A290
  clear A290
  by_cases c30 : t330 = true
  ·
   subst c30
   have H1 : ((spec_RecOk.f k t319 t320 t321 t322).bind fun t331 => (laws_FnAhead.j0 k (!t331) t308 t309 t310 t311 t312 t313 t314 t315 t319 t320 t321 t322)) = some r := by rw [if_pos rfl] at H; exact H
   clear H
   have H := H1
   clear H1
   replace H := Option.bind_eq_some_iff.mp H
   obtain ⟨t331, A310, H⟩ := H
   replace H : (laws_FnAhead.j0 k (!t331) t308 t309 t310 t311 t312 t313 t314 t315 t319 t320 t321 t322) = some r := H
   have A31 := Aside0.mk A310
   clear A310
   have H' := Aside0.mk H
   clear H
   have hnb32 := NB316_317.out
   have hnc32 := NB317_316.out
   have hnb33 := NB316_327.out
   have hnc33 := NB327_316.out
   have hnb34 := NB316_328.out
   have hnc34 := NB328_316.out
   have hcz35_0 : w19.cell? ⟨gb316, 0, none⟩ = some (.bool t308) := b3_ BK316.out 0 rfl
   have hcz35_1 : w19.cell? ⟨gb316, 1, none⟩ = some (.int .i64 t309) := b3_ BK316.out 1 rfl
   have hcz35_2 : w19.cell? ⟨gb316, 2, none⟩ = some (.int .i64 t310) := b3_ BK316.out 2 rfl
   have hcz35_3 : w19.cell? ⟨gb316, 3, none⟩ = some (.string t311) := b3_ BK316.out 3 rfl
   have hfz35_0 := blk_frozen BK316.out 0
   have hfz35_1 := blk_frozen BK316.out 1
   have hfz35_2 := blk_frozen BK316.out 2
   have hfz35_3 := blk_frozen BK316.out 3
   go_wp2_with (first | ((with_reducible refine gate_callee (f := 6) rfl ?_); refine goesL_ (some 28) rfl rfl Try.func6 (by kernel_rfl) rfl #[.agg #[.bool t308, .int .i64 t309, .int .i64 t310, .string t311]] rfl (by (try simp only [List.map_toArray, List.map_cons, List.map_nil]); rfl) ?_; (with_reducible refine (spec_RecOk.calls k t308 t309 t310 t311 true _ A27.out).mono ?_); rintro e w36 ⟨rfl, hb⟩; refine ⟨_, rfl, ?_⟩; have n0_ := Aside0.mk (blk_below (g := gb316) (o := .cells #[.bool t308, .int .i64 t309, .int .i64 t310, .string t311] 25 (0, 0)) (by (with_reducible repeat (first | refine blk_drewN ?_ _ | refine blk_drew ?_ | refine blk_alloc ?_ _)); refine blk_far ?_ NB316_328.out _; (with_reducible repeat (first | refine blk_drewN ?_ _ | refine blk_drew ?_ | refine blk_alloc ?_ _)); refine blk_far ?_ NB316_328.out _; (with_reducible repeat (first | refine blk_drewN ?_ _ | refine blk_drew ?_ | refine blk_alloc ?_ _)); refine blk_far ?_ NB316_328.out _; (with_reducible repeat (first | refine blk_drewN ?_ _ | refine blk_drew ?_ | refine blk_alloc ?_ _)); refine blk_far ?_ NB316_328.out _; (with_reducible repeat (first | refine blk_drewN ?_ _ | refine blk_drew ?_ | refine blk_alloc ?_ _)); refine blk_far ?_ NB316_327.out _; (with_reducible repeat (first | refine blk_drewN ?_ _ | refine blk_drew ?_ | refine blk_alloc ?_ _)); refine blk_far ?_ NB316_327.out _; (with_reducible repeat (first | refine blk_drewN ?_ _ | refine blk_drew ?_ | refine blk_alloc ?_ _)); refine blk_far ?_ NB316_327.out _; (with_reducible repeat (first | refine blk_drewN ?_ _ | refine blk_drew ?_ | refine blk_alloc ?_ _)); refine blk_far ?_ NB316_327.out _; (with_reducible repeat (first | refine blk_drewN ?_ _ | refine blk_drew ?_ | refine blk_alloc ?_ _)); exact BK316.out) hb); have n1_ := Aside0.mk (blk_below (g := gb317) (o := .cells #[.bool t312, .int .i64 t313, .int .i64 t314, .string t315] 25 (0, 0)) (by (with_reducible repeat (first | refine blk_drewN ?_ _ | refine blk_drew ?_ | refine blk_alloc ?_ _)); refine blk_far ?_ NB317_328.out _; (with_reducible repeat (first | refine blk_drewN ?_ _ | refine blk_drew ?_ | refine blk_alloc ?_ _)); refine blk_far ?_ NB317_328.out _; (with_reducible repeat (first | refine blk_drewN ?_ _ | refine blk_drew ?_ | refine blk_alloc ?_ _)); refine blk_far ?_ NB317_328.out _; (with_reducible repeat (first | refine blk_drewN ?_ _ | refine blk_drew ?_ | refine blk_alloc ?_ _)); refine blk_far ?_ NB317_328.out _; (with_reducible repeat (first | refine blk_drewN ?_ _ | refine blk_drew ?_ | refine blk_alloc ?_ _)); refine blk_far ?_ NB317_327.out _; (with_reducible repeat (first | refine blk_drewN ?_ _ | refine blk_drew ?_ | refine blk_alloc ?_ _)); refine blk_far ?_ NB317_327.out _; (with_reducible repeat (first | refine blk_drewN ?_ _ | refine blk_drew ?_ | refine blk_alloc ?_ _)); refine blk_far ?_ NB317_327.out _; (with_reducible repeat (first | refine blk_drewN ?_ _ | refine blk_drew ?_ | refine blk_alloc ?_ _)); refine blk_far ?_ NB317_327.out _; (with_reducible repeat (first | refine blk_drewN ?_ _ | refine blk_drew ?_ | refine blk_alloc ?_ _)); exact BK317.out) hb); have n2_ := Aside0.mk (blk_below (g := gb327) (o := .cells #[.bool t319, .int .i64 t320, .int .i64 t321, .string t322] 25 (0, 0)) (by (with_reducible repeat (first | refine blk_drewN ?_ _ | refine blk_drew ?_ | refine blk_alloc ?_ _)); refine blk_far ?_ NB327_328.out _; (with_reducible repeat (first | refine blk_drewN ?_ _ | refine blk_drew ?_ | refine blk_alloc ?_ _)); refine blk_far ?_ NB327_328.out _; (with_reducible repeat (first | refine blk_drewN ?_ _ | refine blk_drew ?_ | refine blk_alloc ?_ _)); refine blk_far ?_ NB327_328.out _; (with_reducible repeat (first | refine blk_drewN ?_ _ | refine blk_drew ?_ | refine blk_alloc ?_ _)); refine blk_far ?_ NB327_328.out _; (with_reducible repeat (first | refine blk_drewN ?_ _ | refine blk_drew ?_ | refine blk_alloc ?_ _)); refine blk_put (cs := #[.bool t319, .int .i64 t320, .int .i64 t321, .string (⟨#[]⟩ : ByteArray)]) ?_ 3 _ rfl; (with_reducible repeat (first | refine blk_drewN ?_ _ | refine blk_drew ?_ | refine blk_alloc ?_ _)); refine blk_put (cs := #[.bool t319, .int .i64 t320, .int .i64 0, .string (⟨#[]⟩ : ByteArray)]) ?_ 2 _ rfl; (with_reducible repeat (first | refine blk_drewN ?_ _ | refine blk_drew ?_ | refine blk_alloc ?_ _)); refine blk_put (cs := #[.bool t319, .int .i64 0, .int .i64 0, .string (⟨#[]⟩ : ByteArray)]) ?_ 1 _ rfl; (with_reducible repeat (first | refine blk_drewN ?_ _ | refine blk_drew ?_ | refine blk_alloc ?_ _)); refine blk_put (cs := #[.bool false, .int .i64 0, .int .i64 0, .string (⟨#[]⟩ : ByteArray)]) ?_ 0 _ rfl; (with_reducible repeat (first | refine blk_drewN ?_ _ | refine blk_drew ?_ | refine blk_alloc ?_ _)); exact BK327.out) hb); have n3_ := Aside0.mk (blk_below (g := gb328) (o := .cells #[.bool t323, .int .i64 t324, .int .i64 t325, .string t326] 25 (0, 0)) (by (with_reducible repeat (first | refine blk_drewN ?_ _ | refine blk_drew ?_ | refine blk_alloc ?_ _)); refine blk_put (cs := #[.bool t323, .int .i64 t324, .int .i64 t325, .string (⟨#[]⟩ : ByteArray)]) ?_ 3 _ rfl; (with_reducible repeat (first | refine blk_drewN ?_ _ | refine blk_drew ?_ | refine blk_alloc ?_ _)); refine blk_put (cs := #[.bool t323, .int .i64 t324, .int .i64 0, .string (⟨#[]⟩ : ByteArray)]) ?_ 2 _ rfl; (with_reducible repeat (first | refine blk_drewN ?_ _ | refine blk_drew ?_ | refine blk_alloc ?_ _)); refine blk_put (cs := #[.bool t323, .int .i64 0, .int .i64 0, .string (⟨#[]⟩ : ByteArray)]) ?_ 1 _ rfl; (with_reducible repeat (first | refine blk_drewN ?_ _ | refine blk_drew ?_ | refine blk_alloc ?_ _)); refine blk_put (cs := #[.bool false, .int .i64 0, .int .i64 0, .string (⟨#[]⟩ : ByteArray)]) ?_ 0 _ rfl; (with_reducible repeat (first | refine blk_drewN ?_ _ | refine blk_drew ?_ | refine blk_alloc ?_ _)); refine blk_far ?_ NB328_327.out _; (with_reducible repeat (first | refine blk_drewN ?_ _ | refine blk_drew ?_ | refine blk_alloc ?_ _)); refine blk_far ?_ NB328_327.out _; (with_reducible repeat (first | refine blk_drewN ?_ _ | refine blk_drew ?_ | refine blk_alloc ?_ _)); refine blk_far ?_ NB328_327.out _; (with_reducible repeat (first | refine blk_drewN ?_ _ | refine blk_drew ?_ | refine blk_alloc ?_ _)); refine blk_far ?_ NB328_327.out _; (with_reducible repeat (first | refine blk_drewN ?_ _ | refine blk_drew ?_ | refine blk_alloc ?_ _)); exact BK328.out) hb); have n4_ := Aside0.mk (below_step (by repeat ((with_reducible first | exact HB.out | refine below_set ?_ GE327.out | refine below_set ?_ GE328.out))) hb); replace BK316 := n0_; replace BK317 := n1_; replace BK327 := n2_; replace BK328 := n3_; replace HB := n4_; clear n0_ n1_ n2_ n3_ n4_; (try clear hb); (try clear hb2); (try clear hk); (try clear hi); have hnb37 := NB317_327.out; have hnc37 := NB327_317.out; have hnb38 := NB317_328.out; have hnc38 := NB328_317.out; have hcz39_0 : w36.cell? ⟨gb317, 0, none⟩ = some (.bool t312) := b3_ BK317.out 0 rfl; have hcz39_1 : w36.cell? ⟨gb317, 1, none⟩ = some (.int .i64 t313) := b3_ BK317.out 1 rfl; have hcz39_2 : w36.cell? ⟨gb317, 2, none⟩ = some (.int .i64 t314) := b3_ BK317.out 2 rfl; have hcz39_3 : w36.cell? ⟨gb317, 3, none⟩ = some (.string t315) := b3_ BK317.out 3 rfl; have hfz39_0 := blk_frozen BK317.out 0; have hfz39_1 := blk_frozen BK317.out 1; have hfz39_2 := blk_frozen BK317.out 2; have hfz39_3 := blk_frozen BK317.out 3) | (go_at_call 6; (with_reducible refine (spec_RecOk.calls k t312 t313 t314 t315 true _ A29.out).mono ?_); rintro e w40 ⟨rfl, hb⟩; have n0_ := Aside0.mk (blk_below BK316.out hb); have n1_ := Aside0.mk (blk_below BK317.out hb); have n2_ := Aside0.mk (blk_below BK327.out hb); have n3_ := Aside0.mk (blk_below BK328.out hb); have n4_ := Aside0.mk (below_step (by repeat ((with_reducible exact HB.out))) hb); replace BK316 := n0_; replace BK317 := n1_; replace BK327 := n2_; replace BK328 := n3_; replace HB := n4_; clear n0_ n1_ n2_ n3_ n4_; (try clear hb); (try clear hb2); (try clear hk); (try clear hi); have hnb41 := NB327_328.out; have hnc41 := NB328_327.out; have hcz42_0 : w40.cell? ⟨gb327, 0, none⟩ = some (.bool t319) := b3_ BK327.out 0 rfl; have hcz42_1 : w40.cell? ⟨gb327, 1, none⟩ = some (.int .i64 t320) := b3_ BK327.out 1 rfl; have hcz42_2 : w40.cell? ⟨gb327, 2, none⟩ = some (.int .i64 t321) := b3_ BK327.out 2 rfl; have hcz42_3 : w40.cell? ⟨gb327, 3, none⟩ = some (.string t322) := b3_ BK327.out 3 rfl; have hfz42_0 := blk_frozen BK327.out 0; have hfz42_1 := blk_frozen BK327.out 1; have hfz42_2 := blk_frozen BK327.out 2; have hfz42_3 := blk_frozen BK327.out 3) | (go_at_call 6; (with_reducible refine (spec_RecOk.calls k t319 t320 t321 t322 t331 _ A31.out).mono ?_); rintro e w43 ⟨rfl, hb⟩; have n0_ := Aside0.mk (blk_below BK316.out hb); have n1_ := Aside0.mk (blk_below BK317.out hb); have n2_ := Aside0.mk (blk_below BK327.out hb); have n3_ := Aside0.mk (blk_below BK328.out hb); have n4_ := Aside0.mk (below_step (by repeat ((with_reducible exact HB.out))) hb); replace BK316 := n0_; replace BK317 := n1_; replace BK327 := n2_; replace BK328 := n3_; replace HB := n4_; clear n0_ n1_ n2_ n3_ n4_; (try clear hb); (try clear hb2); (try clear hk); (try clear hi)))
   go_meet
   case rel => exact ⟨_, (!t331), (by rfl), H', ⟨by omega⟩, ⟨by (with_reducible repeat (first | refine blk_drewN ?_ _ | refine blk_drew ?_ | refine blk_alloc ?_ _)); exact BK316.out⟩, ⟨by (with_reducible repeat (first | refine blk_drewN ?_ _ | refine blk_drew ?_ | refine blk_alloc ?_ _)); exact BK317.out⟩, ⟨by (with_reducible repeat (first | refine blk_drewN ?_ _ | refine blk_drew ?_ | refine blk_alloc ?_ _)); exact BK327.out⟩, ⟨by (with_reducible repeat (first | refine blk_drewN ?_ _ | refine blk_drew ?_ | refine blk_alloc ?_ _)); exact BK328.out⟩, ⟨by repeat ((with_reducible exact HB.out))⟩⟩
  replace c30 := Bool.eq_false_iff.mpr c30
  subst c30
  have H1 : (laws_FnAhead.j0 k true t308 t309 t310 t311 t312 t313 t314 t315 t319 t320 t321 t322) = some r := by rw [if_neg (show ¬ (false = true) by decide)] at H; exact H
  clear H
  have H := H1
  clear H1
  have H' := Aside0.mk H
  clear H
  have hnb44 := NB316_317.out
  have hnc44 := NB317_316.out
  have hnb45 := NB316_327.out
  have hnc45 := NB327_316.out
  have hnb46 := NB316_328.out
  have hnc46 := NB328_316.out
  have hcz47_0 : w19.cell? ⟨gb316, 0, none⟩ = some (.bool t308) := b3_ BK316.out 0 rfl
  have hcz47_1 : w19.cell? ⟨gb316, 1, none⟩ = some (.int .i64 t309) := b3_ BK316.out 1 rfl
  have hcz47_2 : w19.cell? ⟨gb316, 2, none⟩ = some (.int .i64 t310) := b3_ BK316.out 2 rfl
  have hcz47_3 : w19.cell? ⟨gb316, 3, none⟩ = some (.string t311) := b3_ BK316.out 3 rfl
  have hfz47_0 := blk_frozen BK316.out 0
  have hfz47_1 := blk_frozen BK316.out 1
  have hfz47_2 := blk_frozen BK316.out 2
  have hfz47_3 := blk_frozen BK316.out 3
  go_wp2_with (first | ((with_reducible refine gate_callee (f := 6) rfl ?_); refine goesL_ (some 28) rfl rfl Try.func6 (by kernel_rfl) rfl #[.agg #[.bool t308, .int .i64 t309, .int .i64 t310, .string t311]] rfl (by (try simp only [List.map_toArray, List.map_cons, List.map_nil]); rfl) ?_; (with_reducible refine (spec_RecOk.calls k t308 t309 t310 t311 true _ A27.out).mono ?_); rintro e w48 ⟨rfl, hb⟩; refine ⟨_, rfl, ?_⟩; have n0_ := Aside0.mk (blk_below (g := gb316) (o := .cells #[.bool t308, .int .i64 t309, .int .i64 t310, .string t311] 25 (0, 0)) (by (with_reducible repeat (first | refine blk_drewN ?_ _ | refine blk_drew ?_ | refine blk_alloc ?_ _)); refine blk_far ?_ NB316_328.out _; (with_reducible repeat (first | refine blk_drewN ?_ _ | refine blk_drew ?_ | refine blk_alloc ?_ _)); refine blk_far ?_ NB316_328.out _; (with_reducible repeat (first | refine blk_drewN ?_ _ | refine blk_drew ?_ | refine blk_alloc ?_ _)); refine blk_far ?_ NB316_328.out _; (with_reducible repeat (first | refine blk_drewN ?_ _ | refine blk_drew ?_ | refine blk_alloc ?_ _)); refine blk_far ?_ NB316_328.out _; (with_reducible repeat (first | refine blk_drewN ?_ _ | refine blk_drew ?_ | refine blk_alloc ?_ _)); refine blk_far ?_ NB316_327.out _; (with_reducible repeat (first | refine blk_drewN ?_ _ | refine blk_drew ?_ | refine blk_alloc ?_ _)); refine blk_far ?_ NB316_327.out _; (with_reducible repeat (first | refine blk_drewN ?_ _ | refine blk_drew ?_ | refine blk_alloc ?_ _)); refine blk_far ?_ NB316_327.out _; (with_reducible repeat (first | refine blk_drewN ?_ _ | refine blk_drew ?_ | refine blk_alloc ?_ _)); refine blk_far ?_ NB316_327.out _; (with_reducible repeat (first | refine blk_drewN ?_ _ | refine blk_drew ?_ | refine blk_alloc ?_ _)); exact BK316.out) hb); have n1_ := Aside0.mk (blk_below (g := gb317) (o := .cells #[.bool t312, .int .i64 t313, .int .i64 t314, .string t315] 25 (0, 0)) (by (with_reducible repeat (first | refine blk_drewN ?_ _ | refine blk_drew ?_ | refine blk_alloc ?_ _)); refine blk_far ?_ NB317_328.out _; (with_reducible repeat (first | refine blk_drewN ?_ _ | refine blk_drew ?_ | refine blk_alloc ?_ _)); refine blk_far ?_ NB317_328.out _; (with_reducible repeat (first | refine blk_drewN ?_ _ | refine blk_drew ?_ | refine blk_alloc ?_ _)); refine blk_far ?_ NB317_328.out _; (with_reducible repeat (first | refine blk_drewN ?_ _ | refine blk_drew ?_ | refine blk_alloc ?_ _)); refine blk_far ?_ NB317_328.out _; (with_reducible repeat (first | refine blk_drewN ?_ _ | refine blk_drew ?_ | refine blk_alloc ?_ _)); refine blk_far ?_ NB317_327.out _; (with_reducible repeat (first | refine blk_drewN ?_ _ | refine blk_drew ?_ | refine blk_alloc ?_ _)); refine blk_far ?_ NB317_327.out _; (with_reducible repeat (first | refine blk_drewN ?_ _ | refine blk_drew ?_ | refine blk_alloc ?_ _)); refine blk_far ?_ NB317_327.out _; (with_reducible repeat (first | refine blk_drewN ?_ _ | refine blk_drew ?_ | refine blk_alloc ?_ _)); refine blk_far ?_ NB317_327.out _; (with_reducible repeat (first | refine blk_drewN ?_ _ | refine blk_drew ?_ | refine blk_alloc ?_ _)); exact BK317.out) hb); have n2_ := Aside0.mk (blk_below (g := gb327) (o := .cells #[.bool t319, .int .i64 t320, .int .i64 t321, .string t322] 25 (0, 0)) (by (with_reducible repeat (first | refine blk_drewN ?_ _ | refine blk_drew ?_ | refine blk_alloc ?_ _)); refine blk_far ?_ NB327_328.out _; (with_reducible repeat (first | refine blk_drewN ?_ _ | refine blk_drew ?_ | refine blk_alloc ?_ _)); refine blk_far ?_ NB327_328.out _; (with_reducible repeat (first | refine blk_drewN ?_ _ | refine blk_drew ?_ | refine blk_alloc ?_ _)); refine blk_far ?_ NB327_328.out _; (with_reducible repeat (first | refine blk_drewN ?_ _ | refine blk_drew ?_ | refine blk_alloc ?_ _)); refine blk_far ?_ NB327_328.out _; (with_reducible repeat (first | refine blk_drewN ?_ _ | refine blk_drew ?_ | refine blk_alloc ?_ _)); refine blk_put (cs := #[.bool t319, .int .i64 t320, .int .i64 t321, .string (⟨#[]⟩ : ByteArray)]) ?_ 3 _ rfl; (with_reducible repeat (first | refine blk_drewN ?_ _ | refine blk_drew ?_ | refine blk_alloc ?_ _)); refine blk_put (cs := #[.bool t319, .int .i64 t320, .int .i64 0, .string (⟨#[]⟩ : ByteArray)]) ?_ 2 _ rfl; (with_reducible repeat (first | refine blk_drewN ?_ _ | refine blk_drew ?_ | refine blk_alloc ?_ _)); refine blk_put (cs := #[.bool t319, .int .i64 0, .int .i64 0, .string (⟨#[]⟩ : ByteArray)]) ?_ 1 _ rfl; (with_reducible repeat (first | refine blk_drewN ?_ _ | refine blk_drew ?_ | refine blk_alloc ?_ _)); refine blk_put (cs := #[.bool false, .int .i64 0, .int .i64 0, .string (⟨#[]⟩ : ByteArray)]) ?_ 0 _ rfl; (with_reducible repeat (first | refine blk_drewN ?_ _ | refine blk_drew ?_ | refine blk_alloc ?_ _)); exact BK327.out) hb); have n3_ := Aside0.mk (blk_below (g := gb328) (o := .cells #[.bool t323, .int .i64 t324, .int .i64 t325, .string t326] 25 (0, 0)) (by (with_reducible repeat (first | refine blk_drewN ?_ _ | refine blk_drew ?_ | refine blk_alloc ?_ _)); refine blk_put (cs := #[.bool t323, .int .i64 t324, .int .i64 t325, .string (⟨#[]⟩ : ByteArray)]) ?_ 3 _ rfl; (with_reducible repeat (first | refine blk_drewN ?_ _ | refine blk_drew ?_ | refine blk_alloc ?_ _)); refine blk_put (cs := #[.bool t323, .int .i64 t324, .int .i64 0, .string (⟨#[]⟩ : ByteArray)]) ?_ 2 _ rfl; (with_reducible repeat (first | refine blk_drewN ?_ _ | refine blk_drew ?_ | refine blk_alloc ?_ _)); refine blk_put (cs := #[.bool t323, .int .i64 0, .int .i64 0, .string (⟨#[]⟩ : ByteArray)]) ?_ 1 _ rfl; (with_reducible repeat (first | refine blk_drewN ?_ _ | refine blk_drew ?_ | refine blk_alloc ?_ _)); refine blk_put (cs := #[.bool false, .int .i64 0, .int .i64 0, .string (⟨#[]⟩ : ByteArray)]) ?_ 0 _ rfl; (with_reducible repeat (first | refine blk_drewN ?_ _ | refine blk_drew ?_ | refine blk_alloc ?_ _)); refine blk_far ?_ NB328_327.out _; (with_reducible repeat (first | refine blk_drewN ?_ _ | refine blk_drew ?_ | refine blk_alloc ?_ _)); refine blk_far ?_ NB328_327.out _; (with_reducible repeat (first | refine blk_drewN ?_ _ | refine blk_drew ?_ | refine blk_alloc ?_ _)); refine blk_far ?_ NB328_327.out _; (with_reducible repeat (first | refine blk_drewN ?_ _ | refine blk_drew ?_ | refine blk_alloc ?_ _)); refine blk_far ?_ NB328_327.out _; (with_reducible repeat (first | refine blk_drewN ?_ _ | refine blk_drew ?_ | refine blk_alloc ?_ _)); exact BK328.out) hb); have n4_ := Aside0.mk (below_step (by repeat ((with_reducible first | exact HB.out | refine below_set ?_ GE327.out | refine below_set ?_ GE328.out))) hb); replace BK316 := n0_; replace BK317 := n1_; replace BK327 := n2_; replace BK328 := n3_; replace HB := n4_; clear n0_ n1_ n2_ n3_ n4_; (try clear hb); (try clear hb2); (try clear hk); (try clear hi); have hnb49 := NB317_327.out; have hnc49 := NB327_317.out; have hnb50 := NB317_328.out; have hnc50 := NB328_317.out; have hcz51_0 : w48.cell? ⟨gb317, 0, none⟩ = some (.bool t312) := b3_ BK317.out 0 rfl; have hcz51_1 : w48.cell? ⟨gb317, 1, none⟩ = some (.int .i64 t313) := b3_ BK317.out 1 rfl; have hcz51_2 : w48.cell? ⟨gb317, 2, none⟩ = some (.int .i64 t314) := b3_ BK317.out 2 rfl; have hcz51_3 : w48.cell? ⟨gb317, 3, none⟩ = some (.string t315) := b3_ BK317.out 3 rfl; have hfz51_0 := blk_frozen BK317.out 0; have hfz51_1 := blk_frozen BK317.out 1; have hfz51_2 := blk_frozen BK317.out 2; have hfz51_3 := blk_frozen BK317.out 3) | (go_at_call 6; (with_reducible refine (spec_RecOk.calls k t312 t313 t314 t315 false _ A29.out).mono ?_); rintro e w52 ⟨rfl, hb⟩; have n0_ := Aside0.mk (blk_below BK316.out hb); have n1_ := Aside0.mk (blk_below BK317.out hb); have n2_ := Aside0.mk (blk_below BK327.out hb); have n3_ := Aside0.mk (blk_below BK328.out hb); have n4_ := Aside0.mk (below_step (by repeat ((with_reducible exact HB.out))) hb); replace BK316 := n0_; replace BK317 := n1_; replace BK327 := n2_; replace BK328 := n3_; replace HB := n4_; clear n0_ n1_ n2_ n3_ n4_; (try clear hb); (try clear hb2); (try clear hk); (try clear hi)))
  go_meet
  case rel => exact ⟨_, (true), (by rfl), H', ⟨by omega⟩, ⟨by (with_reducible repeat (first | refine blk_drewN ?_ _ | refine blk_drew ?_ | refine blk_alloc ?_ _)); exact BK316.out⟩, ⟨by (with_reducible repeat (first | refine blk_drewN ?_ _ | refine blk_drew ?_ | refine blk_alloc ?_ _)); exact BK317.out⟩, ⟨by (with_reducible repeat (first | refine blk_drewN ?_ _ | refine blk_drew ?_ | refine blk_alloc ?_ _)); exact BK327.out⟩, ⟨by (with_reducible repeat (first | refine blk_drewN ?_ _ | refine blk_drew ?_ | refine blk_alloc ?_ _)); exact BK328.out⟩, ⟨by repeat ((with_reducible exact HB.out))⟩⟩
 case rest =>
  clear HC9
  try clear c1
  try clear c2
  try clear p2
  try clear c3
  try clear c4
  try clear c5
  try clear c6
  try clear c6b0
  try clear c6b1
  try clear p6
  try clear c7
  try clear c7b0
  try clear c7b1
  try clear c13
  try clear c20
  try clear c21
  try clear c22
  try clear c24
  try clear c25
  try clear c28
  try clear c30
  try clear c32
  try clear c33
  try clear c34
  try clear c37
  try clear c38
  try clear c41
  try clear c44
  try clear c45
  try clear c46
  try clear c49
  try clear c50
  try clear c53
  try clear c54
  try clear c55
  try clear hcz14_0
  try clear hcz14_1
  try clear hcz14_2
  try clear hcz14_3
  try clear hcz15_0
  try clear hcz15_1
  try clear hcz15_2
  try clear hcz15_3
  try clear hcz23_0
  try clear hcz23_1
  try clear hcz23_2
  try clear hcz23_3
  try clear hcz26_0
  try clear hcz26_1
  try clear hcz26_2
  try clear hcz26_3
  try clear hcz35_0
  try clear hcz35_1
  try clear hcz35_2
  try clear hcz35_3
  try clear hcz39_0
  try clear hcz39_1
  try clear hcz39_2
  try clear hcz39_3
  try clear hcz42_0
  try clear hcz42_1
  try clear hcz42_2
  try clear hcz42_3
  try clear hcz47_0
  try clear hcz47_1
  try clear hcz47_2
  try clear hcz47_3
  try clear hcz51_0
  try clear hcz51_1
  try clear hcz51_2
  try clear hcz51_3
  try clear hcz56_0
  try clear hcz56_1
  try clear hcz56_2
  try clear hcz56_3
  try clear hfz14_0
  try clear hfz14_1
  try clear hfz14_2
  try clear hfz14_3
  try clear hfz15_0
  try clear hfz15_1
  try clear hfz15_2
  try clear hfz15_3
  try clear hfz23_0
  try clear hfz23_1
  try clear hfz23_2
  try clear hfz23_3
  try clear hfz26_0
  try clear hfz26_1
  try clear hfz26_2
  try clear hfz26_3
  try clear hfz35_0
  try clear hfz35_1
  try clear hfz35_2
  try clear hfz35_3
  try clear hfz39_0
  try clear hfz39_1
  try clear hfz39_2
  try clear hfz39_3
  try clear hfz42_0
  try clear hfz42_1
  try clear hfz42_2
  try clear hfz42_3
  try clear hfz47_0
  try clear hfz47_1
  try clear hfz47_2
  try clear hfz47_3
  try clear hfz51_0
  try clear hfz51_1
  try clear hfz51_2
  try clear hfz51_3
  try clear hfz56_0
  try clear hfz56_1
  try clear hfz56_2
  try clear hfz56_3
  obtain ⟨kq, x39_8, rfl, HA, HJ8, BK316, BK317, BK327, BK328, HB⟩ := hcut
  cases kq with
  | zero => exact absurd HA.out (by simp [laws_FnAhead.j0])
  | succ kj8 =>
   have H := HA.out
   clear HA
   simp only [laws_FnAhead.j0] at H
   by_cases c58 : x39_8 = true
   ·
    subst c58
    have H1 : ((impl_RecAhead.f kj8 t308 t309 t310 t311 t312 t313 t314 t315).bind fun t332 => ((spec_RecAhead.f kj8 t308 t309 t310 t311 t312 t313 t314 t315).bind fun t333 => (some (t332 == t333)))) = some r := by rw [if_pos rfl] at H; exact H
    clear H
    have H := H1
    clear H1
    replace H := Option.bind_eq_some_iff.mp H
    obtain ⟨t332, A590, H⟩ := H
    replace H : ((spec_RecAhead.f kj8 t308 t309 t310 t311 t312 t313 t314 t315).bind fun t333 => (some (t332 == t333))) = some r := H
    have A59 := Aside0.mk A590
    clear A590
    replace H := Option.bind_eq_some_iff.mp H
    obtain ⟨t333, A600, H⟩ := H
    replace H : (some (t332 == t333)) = some r := H
    have A60 := Aside0.mk A600
    clear A600
    obtain rfl := Option.some.inj H
    try go_wp2
    replace BK316 := Aside0.mk (blk_drew BK316.out)
    replace BK317 := Aside0.mk (blk_drew BK317.out)
    replace BK327 := Aside0.mk (blk_drew BK327.out)
    replace BK328 := Aside0.mk (blk_drew BK328.out)
    replace HB := Aside0.mk (below_drew1 HB.out)
    refine start_ (n := 8) (S := fun w' => w'.cell? ⟨gb316, 0, none⟩ = some (.bool t308) ∧ w'.cell? ⟨gb316, 1, none⟩ = some (.int .i64 t309) ∧ w'.cell? ⟨gb316, 2, none⟩ = some (.int .i64 t310) ∧ w'.cell? ⟨gb316, 3, none⟩ = some (.string t311) ∧ w'.cell? ⟨gb317, 0, none⟩ = some (.bool t312) ∧ w'.cell? ⟨gb317, 1, none⟩ = some (.int .i64 t313) ∧ w'.cell? ⟨gb317, 2, none⟩ = some (.int .i64 t314) ∧ w'.cell? ⟨gb317, 3, none⟩ = some (.string t315)) (ds := []) #[false, false, false, false, false, false, false, false] (by kernel_rfl) rfl rfl ⟨b3_ BK316.out 0 rfl, b3_ BK316.out 1 rfl, b3_ BK316.out 2 rfl, b3_ BK316.out 3 rfl, b3_ BK317.out 0 rfl, b3_ BK317.out 1 rfl, b3_ BK317.out 2 rfl, b3_ BK317.out 3 rfl⟩ (fun hHeld => ?_); refine with_tabW laws_FnAhead.tab6 laws_FnAhead.bits6 (fun HT_ HW_ => ?_)
    generalize wc.drew = w61 at BK316 BK317 BK327 BK328 HB hHeld ⊢
    refine take_ (i := 0) (N := some 40) (v := ?_) (a' := ?_) #[true, false, false, false, false, false, false, false] rfl rfl (take_ofW HT_.out HW_.out (by kernel_rfl)) (fun _ _ _ h => h) (Or.inl ⟨by rfl, ?_⟩) hHeld ?_ ?_
    rotate_left
    ·
     rintro w' ⟨s0, s1, s2, s3, s4, s5, s6, s7⟩
     go_simp
     with_reducible rfl
    rotate_left
    ·
     simp only [Act.put, List.setIfInBounds_toArray, List.set_cons_zero, List.set_cons_succ, i64_w, i32_w]
     rfl
    refine take_ (i := 1) (N := some 41) (v := ?_) (a' := ?_) #[true, true, false, false, false, false, false, false] rfl rfl (take_ofW HT_.out HW_.out (by kernel_rfl)) (fun _ _ _ h => h) (Or.inl ⟨by rfl, ?_⟩) hHeld ?_ ?_
    rotate_left
    ·
     rintro w' ⟨s0, s1, s2, s3, s4, s5, s6, s7⟩
     go_simp
     with_reducible rfl
    rotate_left
    ·
     simp only [Act.put, List.setIfInBounds_toArray, List.set_cons_zero, List.set_cons_succ, i64_w, i32_w]
     rfl
    refine take_ (i := 3) (N := some 43) (v := ?_) (a' := ?_) #[true, true, false, true, false, false, false, false] rfl rfl (take_ofW HT_.out HW_.out (by kernel_rfl)) (fun _ _ _ h => h) (Or.inl ⟨by rfl, ?_⟩) hHeld ?_ ?_
    rotate_left
    ·
     rintro w' ⟨s0, s1, s2, s3, s4, s5, s6, s7⟩
     go_simp
     with_reducible rfl
    rotate_left
    ·
     simp only [Act.put, List.setIfInBounds_toArray, List.set_cons_zero, List.set_cons_succ, i64_w, i32_w]
     rfl
    refine take_ (i := 4) (N := some 44) (v := ?_) (a' := ?_) #[true, true, false, true, true, false, false, false] rfl rfl (take_ofW HT_.out HW_.out (by kernel_rfl)) (fun _ _ _ h => h) (Or.inl ⟨by rfl, ?_⟩) hHeld ?_ ?_
    rotate_left
    ·
     rintro w' ⟨s0, s1, s2, s3, s4, s5, s6, s7⟩
     go_simp
     with_reducible rfl
    rotate_left
    ·
     simp only [Act.put, List.setIfInBounds_toArray, List.set_cons_zero, List.set_cons_succ, i64_w, i32_w]
     rfl
    refine one_ (i := 2) (N := some 42) #[true, true, true, true, true, false, false, false] rfl rfl (one_of HT_.out (by kernel_rfl)) (by decide) (fun K hK => ?_)
    refine goes_ Try.func7 (by kernel_rfl) rfl #[.agg #[.bool t308, .int .i64 t309, .int .i64 t310, .string t311], .agg #[.bool t312, .int .i64 t313, .int .i64 t314, .string t315]] (by rfl) rfl rfl (by (try simp only [List.map_toArray, List.map_cons, List.map_nil]); rfl) ?_
    with_reducible refine (impl_RecAhead.calls kj8 t308 t309 t310 t311 t312 t313 t314 t315 t332 _ A59.out).mono ?_
    rintro e w62 ⟨rfl, hb⟩
    refine ⟨_, rfl, ?_⟩
    replace BK316 := Aside0.mk (blk_below BK316.out hb)
    replace BK317 := Aside0.mk (blk_below BK317.out hb)
    replace BK327 := Aside0.mk (blk_below BK327.out hb)
    replace BK328 := Aside0.mk (blk_below BK328.out hb)
    replace HB := Aside0.mk (below_step HB.out hb)
    (try clear hb)
    (try clear hb2)
    (try clear hk)
    (try clear hi)
    refine hK.out _ _ ⟨b3_ BK316.out 0 rfl, b3_ BK316.out 1 rfl, b3_ BK316.out 2 rfl, b3_ BK316.out 3 rfl, b3_ BK317.out 0 rfl, b3_ BK317.out 1 rfl, b3_ BK317.out 2 rfl, b3_ BK317.out 3 rfl⟩ (fun hHeld => ?_)
    clear hK K
    refine norm_ (a' := ?_) ?_ ?_
    rotate_left
    ·
     show Act.put _ (some 42) _ = _
     simp only [Act.put, List.setIfInBounds_toArray, List.set_cons_zero, List.set_cons_succ, i64_w, i32_w]
     rfl
    refine one_ (i := 5) (N := some 45) #[true, true, true, true, true, true, false, false] rfl rfl (one_of HT_.out (by kernel_rfl)) (by decide) (fun K hK => ?_)
    refine goes_ Try.func8 (by kernel_rfl) rfl #[.agg #[.bool t308, .int .i64 t309, .int .i64 t310, .string t311], .agg #[.bool t312, .int .i64 t313, .int .i64 t314, .string t315]] (by rfl) rfl rfl (by (try simp only [List.map_toArray, List.map_cons, List.map_nil]); rfl) ?_
    with_reducible refine (spec_RecAhead.calls kj8 t308 t309 t310 t311 t312 t313 t314 t315 t333 _ A60.out).mono ?_
    rintro e w63 ⟨rfl, hb⟩
    refine ⟨_, rfl, ?_⟩
    replace BK316 := Aside0.mk (blk_below BK316.out hb)
    replace BK317 := Aside0.mk (blk_below BK317.out hb)
    replace BK327 := Aside0.mk (blk_below BK327.out hb)
    replace BK328 := Aside0.mk (blk_below BK328.out hb)
    replace HB := Aside0.mk (below_step HB.out hb)
    (try clear hb)
    (try clear hb2)
    (try clear hk)
    (try clear hi)
    refine hK.out _ _ ⟨b3_ BK316.out 0 rfl, b3_ BK316.out 1 rfl, b3_ BK316.out 2 rfl, b3_ BK316.out 3 rfl, b3_ BK317.out 0 rfl, b3_ BK317.out 1 rfl, b3_ BK317.out 2 rfl, b3_ BK317.out 3 rfl⟩ (fun hHeld => ?_)
    clear hK K
    refine norm_ (a' := ?_) ?_ ?_
    rotate_left
    ·
     show Act.put _ (some 45) _ = _
     simp only [Act.put, List.setIfInBounds_toArray, List.set_cons_zero, List.set_cons_succ, i64_w, i32_w]
     rfl
    refine pure_ (i := 6) (N := some 46) (v := ?_) (a' := ?_) #[true, true, true, true, true, true, true, false] rfl rfl (any_of HT_.out (by kernel_rfl)) (fun _ _ _ h => h) (Or.inl ⟨by rfl, ?_⟩) ?_ ?_
    rotate_left
    ·
     intro w'
     go_simp
     with_reducible rfl
    rotate_left
    ·
     simp only [Act.put, List.setIfInBounds_toArray, List.set_cons_zero, List.set_cons_succ, i64_w, i32_w]
     rfl
    refine pure_ (i := 7) (N := some 2) (v := ?_) (a' := ?_) #[true, true, true, true, true, true, true, true] rfl rfl (any_of HT_.out (by kernel_rfl)) (fun _ _ _ h => h) (Or.inl ⟨by rfl, ?_⟩) ?_ ?_
    rotate_left
    ·
     intro w'
     go_simp
     with_reducible rfl
    rotate_left
    ·
     simp only [Act.put, List.setIfInBounds_toArray, List.set_cons_zero, List.set_cons_succ, i64_w, i32_w]
     rfl
    refine done_ (done_of HT_.out (by kernel_rfl)) ?_
    try go_wp2
    go_ret
    exact ⟨by rfl, by repeat ((with_reducible exact HB.out))⟩
   replace c58 := Bool.eq_false_iff.mpr c58
   subst c58
   have H1 : ((impl_RecAhead.f kj8 t308 t309 t310 t311 t312 t313 t314 t315).bind fun t334 => ((impl_RecAhead.f kj8 t312 t313 t314 t315 t308 t309 t310 t311).bind fun t335 => (if t334 = true then (if t335 = true then (laws_FnAhead.j1 kj8 t334 true t308 t309 t310 t311 t312 t313 t314 t315 t319 t320 t321 t322) else (if (true != (!(t308 == t312) || (!(t309 == t313) || (!(t310 == t314) || (!(t311.toList == t315.toList)))))) = true then (laws_FnAhead.j1 kj8 t334 true t308 t309 t310 t311 t312 t313 t314 t315 t319 t320 t321 t322) else ((spec_RecAhead.f kj8 t308 t309 t310 t311 t312 t313 t314 t315).bind fun t336 => (laws_FnAhead.j1 kj8 t334 (t334 != t336) t308 t309 t310 t311 t312 t313 t314 t315 t319 t320 t321 t322)))) else (if (t335 != (!(t308 == t312) || (!(t309 == t313) || (!(t310 == t314) || (!(t311.toList == t315.toList)))))) = true then (laws_FnAhead.j1 kj8 t334 true t308 t309 t310 t311 t312 t313 t314 t315 t319 t320 t321 t322) else ((spec_RecAhead.f kj8 t308 t309 t310 t311 t312 t313 t314 t315).bind fun t337 => (laws_FnAhead.j1 kj8 t334 (t334 != t337) t308 t309 t310 t311 t312 t313 t314 t315 t319 t320 t321 t322)))))) = some r := by rw [if_neg (show ¬ (false = true) by decide)] at H; exact H
   clear H
   have H := H1
   clear H1
   replace H := Option.bind_eq_some_iff.mp H
   obtain ⟨t334, A640, H⟩ := H
   replace H : ((impl_RecAhead.f kj8 t312 t313 t314 t315 t308 t309 t310 t311).bind fun t335 => (if t334 = true then (if t335 = true then (laws_FnAhead.j1 kj8 t334 true t308 t309 t310 t311 t312 t313 t314 t315 t319 t320 t321 t322) else (if (true != (!(t308 == t312) || (!(t309 == t313) || (!(t310 == t314) || (!(t311.toList == t315.toList)))))) = true then (laws_FnAhead.j1 kj8 t334 true t308 t309 t310 t311 t312 t313 t314 t315 t319 t320 t321 t322) else ((spec_RecAhead.f kj8 t308 t309 t310 t311 t312 t313 t314 t315).bind fun t336 => (laws_FnAhead.j1 kj8 t334 (t334 != t336) t308 t309 t310 t311 t312 t313 t314 t315 t319 t320 t321 t322)))) else (if (t335 != (!(t308 == t312) || (!(t309 == t313) || (!(t310 == t314) || (!(t311.toList == t315.toList)))))) = true then (laws_FnAhead.j1 kj8 t334 true t308 t309 t310 t311 t312 t313 t314 t315 t319 t320 t321 t322) else ((spec_RecAhead.f kj8 t308 t309 t310 t311 t312 t313 t314 t315).bind fun t337 => (laws_FnAhead.j1 kj8 t334 (t334 != t337) t308 t309 t310 t311 t312 t313 t314 t315 t319 t320 t321 t322))))) = some r := H
   have A64 := Aside0.mk A640
   clear A640
   replace H := Option.bind_eq_some_iff.mp H
   obtain ⟨t335, A650, H⟩ := H
   replace H : (if t334 = true then (if t335 = true then (laws_FnAhead.j1 kj8 t334 true t308 t309 t310 t311 t312 t313 t314 t315 t319 t320 t321 t322) else (if (true != (!(t308 == t312) || (!(t309 == t313) || (!(t310 == t314) || (!(t311.toList == t315.toList)))))) = true then (laws_FnAhead.j1 kj8 t334 true t308 t309 t310 t311 t312 t313 t314 t315 t319 t320 t321 t322) else ((spec_RecAhead.f kj8 t308 t309 t310 t311 t312 t313 t314 t315).bind fun t336 => (laws_FnAhead.j1 kj8 t334 (t334 != t336) t308 t309 t310 t311 t312 t313 t314 t315 t319 t320 t321 t322)))) else (if (t335 != (!(t308 == t312) || (!(t309 == t313) || (!(t310 == t314) || (!(t311.toList == t315.toList)))))) = true then (laws_FnAhead.j1 kj8 t334 true t308 t309 t310 t311 t312 t313 t314 t315 t319 t320 t321 t322) else ((spec_RecAhead.f kj8 t308 t309 t310 t311 t312 t313 t314 t315).bind fun t337 => (laws_FnAhead.j1 kj8 t334 (t334 != t337) t308 t309 t310 t311 t312 t313 t314 t315 t319 t320 t321 t322)))) = some r := H
   have A65 := Aside0.mk A650
   clear A650
   have HC66 := Aside0.mk H
   clear H
   have hnb67 := NB316_317.out
   have hnc67 := NB317_316.out
   have hnb68 := NB316_327.out
   have hnc68 := NB327_316.out
   have hnb69 := NB316_328.out
   have hnc69 := NB328_316.out
   have hcz70_0 : wc.cell? ⟨gb316, 0, none⟩ = some (.bool t308) := b3_ BK316.out 0 rfl
   have hcz70_1 : wc.cell? ⟨gb316, 1, none⟩ = some (.int .i64 t309) := b3_ BK316.out 1 rfl
   have hcz70_2 : wc.cell? ⟨gb316, 2, none⟩ = some (.int .i64 t310) := b3_ BK316.out 2 rfl
   have hcz70_3 : wc.cell? ⟨gb316, 3, none⟩ = some (.string t311) := b3_ BK316.out 3 rfl
   have hfz70_0 := blk_frozen BK316.out 0
   have hfz70_1 := blk_frozen BK316.out 1
   have hfz70_2 := blk_frozen BK316.out 2
   have hfz70_3 := blk_frozen BK316.out 3
   have hnb71 := NB317_327.out
   have hnc71 := NB327_317.out
   have hnb72 := NB317_328.out
   have hnc72 := NB328_317.out
   have hcz73_0 : wc.cell? ⟨gb317, 0, none⟩ = some (.bool t312) := b3_ BK317.out 0 rfl
   have hcz73_1 : wc.cell? ⟨gb317, 1, none⟩ = some (.int .i64 t313) := b3_ BK317.out 1 rfl
   have hcz73_2 : wc.cell? ⟨gb317, 2, none⟩ = some (.int .i64 t314) := b3_ BK317.out 2 rfl
   have hcz73_3 : wc.cell? ⟨gb317, 3, none⟩ = some (.string t315) := b3_ BK317.out 3 rfl
   have hfz73_0 := blk_frozen BK317.out 0
   have hfz73_1 := blk_frozen BK317.out 1
   have hfz73_2 := blk_frozen BK317.out 2
   have hfz73_3 := blk_frozen BK317.out 3
   go_upto_region 9 with (first | ((with_reducible refine gate_callee (f := 7) rfl ?_); refine goesL_ (some 49) rfl rfl Try.func7 (by kernel_rfl) rfl #[.agg #[.bool t308, .int .i64 t309, .int .i64 t310, .string t311], .agg #[.bool t312, .int .i64 t313, .int .i64 t314, .string t315]] rfl (by (try simp only [List.map_toArray, List.map_cons, List.map_nil]); rfl) ?_; (with_reducible refine (impl_RecAhead.calls kj8 t308 t309 t310 t311 t312 t313 t314 t315 t334 _ A64.out).mono ?_); rintro e w74 ⟨rfl, hb⟩; refine ⟨_, rfl, ?_⟩; have n0_ := Aside0.mk (blk_below BK316.out hb); have n1_ := Aside0.mk (blk_below BK317.out hb); have n2_ := Aside0.mk (blk_below BK327.out hb); have n3_ := Aside0.mk (blk_below BK328.out hb); have n4_ := Aside0.mk (below_step (by repeat ((with_reducible exact HB.out))) hb); replace BK316 := n0_; replace BK317 := n1_; replace BK327 := n2_; replace BK328 := n3_; replace HB := n4_; clear n0_ n1_ n2_ n3_ n4_; (try clear hb); (try clear hb2); (try clear hk); (try clear hi); have hcz75_0 : w74.cell? ⟨gb317, 0, none⟩ = some (.bool t312) := b3_ BK317.out 0 rfl; have hcz75_1 : w74.cell? ⟨gb317, 1, none⟩ = some (.int .i64 t313) := b3_ BK317.out 1 rfl; have hcz75_2 : w74.cell? ⟨gb317, 2, none⟩ = some (.int .i64 t314) := b3_ BK317.out 2 rfl; have hcz75_3 : w74.cell? ⟨gb317, 3, none⟩ = some (.string t315) := b3_ BK317.out 3 rfl; have hfz75_0 := blk_frozen BK317.out 0; have hfz75_1 := blk_frozen BK317.out 1; have hfz75_2 := blk_frozen BK317.out 2; have hfz75_3 := blk_frozen BK317.out 3; have hcz76_0 : w74.cell? ⟨gb316, 0, none⟩ = some (.bool t308) := b3_ BK316.out 0 rfl; have hcz76_1 : w74.cell? ⟨gb316, 1, none⟩ = some (.int .i64 t309) := b3_ BK316.out 1 rfl; have hcz76_2 : w74.cell? ⟨gb316, 2, none⟩ = some (.int .i64 t310) := b3_ BK316.out 2 rfl; have hcz76_3 : w74.cell? ⟨gb316, 3, none⟩ = some (.string t311) := b3_ BK316.out 3 rfl; have hfz76_0 := blk_frozen BK316.out 0; have hfz76_1 := blk_frozen BK316.out 1; have hfz76_2 := blk_frozen BK316.out 2; have hfz76_3 := blk_frozen BK316.out 3) | ((with_reducible refine gate_callee (f := 7) rfl ?_); refine goesL_ (some 52) rfl rfl Try.func7 (by kernel_rfl) rfl #[.agg #[.bool t312, .int .i64 t313, .int .i64 t314, .string t315], .agg #[.bool t308, .int .i64 t309, .int .i64 t310, .string t311]] rfl (by (try simp only [List.map_toArray, List.map_cons, List.map_nil]); rfl) ?_; (with_reducible refine (impl_RecAhead.calls kj8 t312 t313 t314 t315 t308 t309 t310 t311 t335 _ A65.out).mono ?_); rintro e w77 ⟨rfl, hb⟩; refine ⟨_, rfl, ?_⟩; have n0_ := Aside0.mk (blk_below BK316.out hb); have n1_ := Aside0.mk (blk_below BK317.out hb); have n2_ := Aside0.mk (blk_below BK327.out hb); have n3_ := Aside0.mk (blk_below BK328.out hb); have n4_ := Aside0.mk (below_step (by repeat ((with_reducible exact HB.out))) hb); replace BK316 := n0_; replace BK317 := n1_; replace BK327 := n2_; replace BK328 := n3_; replace HB := n4_; clear n0_ n1_ n2_ n3_ n4_; (try clear hb); (try clear hb2); (try clear hk); (try clear hi)))
   (try simp only [Act.put, List.setIfInBounds_toArray, List.set_cons_zero, List.set_cons_succ])
   go_cut [73] (fun v73 wc => ∃ (kq : Nat) (x73_65 : Bool), v73 = .bool x73_65 ∧ Aside0 (laws_FnAhead.j1 kq t334 x73_65 t308 t309 t310 t311 t312 t313 t314 t315 t319 t320 t321 t322 = some r) ∧ Aside0 (kq ≤ kj8) ∧ Aside0 (wc.heap[gb316]? = some (.cells #[.bool t308, .int .i64 t309, .int .i64 t310, .string t311] 25 (0, 0))) ∧ Aside0 (wc.heap[gb317]? = some (.cells #[.bool t312, .int .i64 t313, .int .i64 t314, .string t315] 25 (0, 0))) ∧ Aside0 (wc.heap[gb327]? = some (.cells #[.bool t319, .int .i64 t320, .int .i64 t321, .string t322] 25 (0, 0))) ∧ Aside0 (wc.heap[gb328]? = some (.cells #[.bool t323, .int .i64 t324, .int .i64 t325, .string t326] 25 (0, 0))) ∧ Aside0 (Below w.heap.size w wc))
   case first =>
    have H := HC66.out
    clear HC66
    by_cases c78 : t334 = true
    rotate_left
    ·
     replace c78 := Bool.eq_false_iff.mpr c78
     subst c78
     have H1 : (if (t335 != (!(t308 == t312) || (!(t309 == t313) || (!(t310 == t314) || (!(t311.toList == t315.toList)))))) = true then (laws_FnAhead.j1 kj8 false true t308 t309 t310 t311 t312 t313 t314 t315 t319 t320 t321 t322) else ((spec_RecAhead.f kj8 t308 t309 t310 t311 t312 t313 t314 t315).bind fun t337 => (laws_FnAhead.j1 kj8 false (false != t337) t308 t309 t310 t311 t312 t313 t314 t315 t319 t320 t321 t322))) = some r := by rw [if_neg (show ¬ (false = true) by decide)] at H; exact H
     clear H
     have H := H1
     clear H1
     by_cases c97 : (t335 != (!(t308 == t312) || (!(t309 == t313) || (!(t310 == t314) || (!(t311.toList == t315.toList)))))) = true
     ·
      rw [if_pos c97] at H
      have c97b0 : (t335 != (!(t308 == t312) || (!(t309 == t313) || (!(t310 == t314) || (!(t311.toList == t315.toList)))))) = true := c97
      (try (have c97b1 : decide (t335 = (!(t308 == t312) || (!(t309 == t313) || (!(t310 == t314) || (!(t311.toList == t315.toList)))))) = false := by simpa using c97))
      (try (have c97b2 : (t335 == (!(t308 == t312) || (!(t309 == t313) || (!(t310 == t314) || (!(t311.toList == t315.toList)))))) = false := by simpa using c97))
      (try (have c97b3 : ¬ (t335 = (!(t308 == t312) || (!(t309 == t313) || (!(t310 == t314) || (!(t311.toList == t315.toList)))))) := by simpa using c97))
      clear c97
      exact (laws_FnAhead.j1_no H HTRUE_.out).elim
     rw [if_neg c97] at H
     have c97b0 : (t335 != (!(t308 == t312) || (!(t309 == t313) || (!(t310 == t314) || (!(t311.toList == t315.toList)))))) = false := by simpa using c97
     (try (have c97b1 : decide (t335 = (!(t308 == t312) || (!(t309 == t313) || (!(t310 == t314) || (!(t311.toList == t315.toList)))))) = true := by simpa using c97))
     (try (have c97b2 : (t335 == (!(t308 == t312) || (!(t309 == t313) || (!(t310 == t314) || (!(t311.toList == t315.toList)))))) = true := by simpa using c97))
     clear c97
     replace H := Option.bind_eq_some_iff.mp H
     obtain ⟨t337, A1050, H⟩ := H
     replace H : (laws_FnAhead.j1 kj8 false (false != t337) t308 t309 t310 t311 t312 t313 t314 t315 t319 t320 t321 t322) = some r := H
     have A105 := Aside0.mk A1050
     clear A1050
     have H' := Aside0.mk H
     clear H
     have hnb106 := NB316_317.out
     have hnc106 := NB317_316.out
     have hnb107 := NB316_327.out
     have hnc107 := NB327_316.out
     have hnb108 := NB316_328.out
     have hnc108 := NB328_316.out
     have hcz109_0 : w77.cell? ⟨gb316, 0, none⟩ = some (.bool t308) := b3_ BK316.out 0 rfl
     have hcz109_1 : w77.cell? ⟨gb316, 1, none⟩ = some (.int .i64 t309) := b3_ BK316.out 1 rfl
     have hcz109_2 : w77.cell? ⟨gb316, 2, none⟩ = some (.int .i64 t310) := b3_ BK316.out 2 rfl
     have hcz109_3 : w77.cell? ⟨gb316, 3, none⟩ = some (.string t311) := b3_ BK316.out 3 rfl
     have hfz109_0 := blk_frozen BK316.out 0
     have hfz109_1 := blk_frozen BK316.out 1
     have hfz109_2 := blk_frozen BK316.out 2
     have hfz109_3 := blk_frozen BK316.out 3
     have hnb110 := NB317_327.out
     have hnc110 := NB327_317.out
     have hnb111 := NB317_328.out
     have hnc111 := NB328_317.out
     have hcz112_0 : w77.cell? ⟨gb317, 0, none⟩ = some (.bool t312) := b3_ BK317.out 0 rfl
     have hcz112_1 : w77.cell? ⟨gb317, 1, none⟩ = some (.int .i64 t313) := b3_ BK317.out 1 rfl
     have hcz112_2 : w77.cell? ⟨gb317, 2, none⟩ = some (.int .i64 t314) := b3_ BK317.out 2 rfl
     have hcz112_3 : w77.cell? ⟨gb317, 3, none⟩ = some (.string t315) := b3_ BK317.out 3 rfl
     have hfz112_0 := blk_frozen BK317.out 0
     have hfz112_1 := blk_frozen BK317.out 1
     have hfz112_2 := blk_frozen BK317.out 2
     have hfz112_3 := blk_frozen BK317.out 3
     go_wp2_with ((go_at_call 8; (with_reducible refine (spec_RecAhead.calls kj8 t308 t309 t310 t311 t312 t313 t314 t315 t337 _ A105.out).mono ?_); rintro e w113 ⟨rfl, hb⟩; have n0_ := Aside0.mk (blk_below BK316.out hb); have n1_ := Aside0.mk (blk_below BK317.out hb); have n2_ := Aside0.mk (blk_below BK327.out hb); have n3_ := Aside0.mk (blk_below BK328.out hb); have n4_ := Aside0.mk (below_step (by repeat ((with_reducible exact HB.out))) hb); replace BK316 := n0_; replace BK317 := n1_; replace BK327 := n2_; replace BK328 := n3_; replace HB := n4_; clear n0_ n1_ n2_ n3_ n4_; (try clear hb); (try clear hb2); (try clear hk); (try clear hi)))
     go_meet
     case rel => exact ⟨_, ((false != t337)), (by (simp; done)), H', ⟨by have := HJ8.out; omega⟩, ⟨by (with_reducible repeat (first | refine blk_drewN ?_ _ | refine blk_drew ?_ | refine blk_alloc ?_ _)); exact BK316.out⟩, ⟨by (with_reducible repeat (first | refine blk_drewN ?_ _ | refine blk_drew ?_ | refine blk_alloc ?_ _)); exact BK317.out⟩, ⟨by (with_reducible repeat (first | refine blk_drewN ?_ _ | refine blk_drew ?_ | refine blk_alloc ?_ _)); exact BK327.out⟩, ⟨by (with_reducible repeat (first | refine blk_drewN ?_ _ | refine blk_drew ?_ | refine blk_alloc ?_ _)); exact BK328.out⟩, ⟨by repeat ((with_reducible exact HB.out))⟩⟩
    subst c78
    have H1 : (if t335 = true then (laws_FnAhead.j1 kj8 true true t308 t309 t310 t311 t312 t313 t314 t315 t319 t320 t321 t322) else (if (true != (!(t308 == t312) || (!(t309 == t313) || (!(t310 == t314) || (!(t311.toList == t315.toList)))))) = true then (laws_FnAhead.j1 kj8 true true t308 t309 t310 t311 t312 t313 t314 t315 t319 t320 t321 t322) else ((spec_RecAhead.f kj8 t308 t309 t310 t311 t312 t313 t314 t315).bind fun t336 => (laws_FnAhead.j1 kj8 true (true != t336) t308 t309 t310 t311 t312 t313 t314 t315 t319 t320 t321 t322)))) = some r := by rw [if_pos rfl] at H; exact H
    clear H
    have H := H1
    clear H1
    by_cases c79 : t335 = true
    ·
     subst c79
     have H1 : (laws_FnAhead.j1 kj8 true true t308 t309 t310 t311 t312 t313 t314 t315 t319 t320 t321 t322) = some r := by rw [if_pos rfl] at H; exact H
     clear H
     have H := H1
     clear H1
     exact (laws_FnAhead.j1_no H HTRUE_.out).elim
    replace c79 := Bool.eq_false_iff.mpr c79
    subst c79
    have H1 : (if (true != (!(t308 == t312) || (!(t309 == t313) || (!(t310 == t314) || (!(t311.toList == t315.toList)))))) = true then (laws_FnAhead.j1 kj8 true true t308 t309 t310 t311 t312 t313 t314 t315 t319 t320 t321 t322) else ((spec_RecAhead.f kj8 t308 t309 t310 t311 t312 t313 t314 t315).bind fun t336 => (laws_FnAhead.j1 kj8 true (true != t336) t308 t309 t310 t311 t312 t313 t314 t315 t319 t320 t321 t322))) = some r := by rw [if_neg (show ¬ (false = true) by decide)] at H; exact H
    clear H
    have H := H1
    clear H1
    by_cases c80 : (true != (!(t308 == t312) || (!(t309 == t313) || (!(t310 == t314) || (!(t311.toList == t315.toList)))))) = true
    ·
     rw [if_pos c80] at H
     have c80b0 : (true != (!(t308 == t312) || (!(t309 == t313) || (!(t310 == t314) || (!(t311.toList == t315.toList)))))) = true := c80
     (try (have c80b1 : decide (true = (!(t308 == t312) || (!(t309 == t313) || (!(t310 == t314) || (!(t311.toList == t315.toList)))))) = false := by simpa using c80))
     (try (have c80b2 : (true == (!(t308 == t312) || (!(t309 == t313) || (!(t310 == t314) || (!(t311.toList == t315.toList)))))) = false := by simpa using c80))
     (try (have c80b3 : ¬ (true = (!(t308 == t312) || (!(t309 == t313) || (!(t310 == t314) || (!(t311.toList == t315.toList)))))) := by simpa using c80))
     clear c80
     (skip)
     exact (laws_FnAhead.j1_no H HTRUE_.out).elim
    rw [if_neg c80] at H
    have c80b0 : (true != (!(t308 == t312) || (!(t309 == t313) || (!(t310 == t314) || (!(t311.toList == t315.toList)))))) = false := by simpa using c80
    have c80d : (¬ t308 = t312 ∨ ¬ t309 = t313 ∨ ¬ t310 = t314 ∨ ¬ t311.toList = t315.toList) := Classical.byContradiction fun h_ => absurd c80b0 (by simp only [not_or, Decidable.not_not] at h_; obtain ⟨q0_, q1_, q2_, q3_⟩ := h_; simp [q0_, q1_, q2_, q3_])
    (try (have c80b1 : decide (true = (!(t308 == t312) || (!(t309 == t313) || (!(t310 == t314) || (!(t311.toList == t315.toList)))))) = true := by simpa using c80))
    (try (have c80b2 : (true == (!(t308 == t312) || (!(t309 == t313) || (!(t310 == t314) || (!(t311.toList == t315.toList)))))) = true := by simpa using c80))
    clear c80
    (skip)
    replace H := Option.bind_eq_some_iff.mp H
    obtain ⟨t336, A880, H⟩ := H
    replace H : (laws_FnAhead.j1 kj8 true (true != t336) t308 t309 t310 t311 t312 t313 t314 t315 t319 t320 t321 t322) = some r := H
    have A88 := Aside0.mk A880
    clear A880
    have H' := Aside0.mk H
    clear H
    have hnb89 := NB316_317.out
    have hnc89 := NB317_316.out
    have hnb90 := NB316_327.out
    have hnc90 := NB327_316.out
    have hnb91 := NB316_328.out
    have hnc91 := NB328_316.out
    have hcz92_0 : w77.cell? ⟨gb316, 0, none⟩ = some (.bool t308) := b3_ BK316.out 0 rfl
    have hcz92_1 : w77.cell? ⟨gb316, 1, none⟩ = some (.int .i64 t309) := b3_ BK316.out 1 rfl
    have hcz92_2 : w77.cell? ⟨gb316, 2, none⟩ = some (.int .i64 t310) := b3_ BK316.out 2 rfl
    have hcz92_3 : w77.cell? ⟨gb316, 3, none⟩ = some (.string t311) := b3_ BK316.out 3 rfl
    have hfz92_0 := blk_frozen BK316.out 0
    have hfz92_1 := blk_frozen BK316.out 1
    have hfz92_2 := blk_frozen BK316.out 2
    have hfz92_3 := blk_frozen BK316.out 3
    have hnb93 := NB317_327.out
    have hnc93 := NB327_317.out
    have hnb94 := NB317_328.out
    have hnc94 := NB328_317.out
    have hcz95_0 : w77.cell? ⟨gb317, 0, none⟩ = some (.bool t312) := b3_ BK317.out 0 rfl
    have hcz95_1 : w77.cell? ⟨gb317, 1, none⟩ = some (.int .i64 t313) := b3_ BK317.out 1 rfl
    have hcz95_2 : w77.cell? ⟨gb317, 2, none⟩ = some (.int .i64 t314) := b3_ BK317.out 2 rfl
    have hcz95_3 : w77.cell? ⟨gb317, 3, none⟩ = some (.string t315) := b3_ BK317.out 3 rfl
    have hfz95_0 := blk_frozen BK317.out 0
    have hfz95_1 := blk_frozen BK317.out 1
    have hfz95_2 := blk_frozen BK317.out 2
    have hfz95_3 := blk_frozen BK317.out 3
    go_wp2_with ((go_at_call 8; (with_reducible refine (spec_RecAhead.calls kj8 t308 t309 t310 t311 t312 t313 t314 t315 t336 _ A88.out).mono ?_); rintro e w96 ⟨rfl, hb⟩; have n0_ := Aside0.mk (blk_below BK316.out hb); have n1_ := Aside0.mk (blk_below BK317.out hb); have n2_ := Aside0.mk (blk_below BK327.out hb); have n3_ := Aside0.mk (blk_below BK328.out hb); have n4_ := Aside0.mk (below_step (by repeat ((with_reducible exact HB.out))) hb); replace BK316 := n0_; replace BK317 := n1_; replace BK327 := n2_; replace BK328 := n3_; replace HB := n4_; clear n0_ n1_ n2_ n3_ n4_; (try clear hb); (try clear hb2); (try clear hk); (try clear hi)))
    go_meet
    case rel => exact ⟨_, ((true != t336)), (by (simp [*]; intro a0_ a1_ a2_ a3_; simp [a0_, a1_, a2_, a3_] at c80d)), H', ⟨by have := HJ8.out; omega⟩, ⟨by (with_reducible repeat (first | refine blk_drewN ?_ _ | refine blk_drew ?_ | refine blk_alloc ?_ _)); exact BK316.out⟩, ⟨by (with_reducible repeat (first | refine blk_drewN ?_ _ | refine blk_drew ?_ | refine blk_alloc ?_ _)); exact BK317.out⟩, ⟨by (with_reducible repeat (first | refine blk_drewN ?_ _ | refine blk_drew ?_ | refine blk_alloc ?_ _)); exact BK327.out⟩, ⟨by (with_reducible repeat (first | refine blk_drewN ?_ _ | refine blk_drew ?_ | refine blk_alloc ?_ _)); exact BK328.out⟩, ⟨by repeat ((with_reducible exact HB.out))⟩⟩
    all_goals exact absurd c80d ‹¬(¬_ ∨ _)›
   case rest =>
    clear HC66
    try clear c1
    try clear c2
    try clear p2
    try clear c3
    try clear c4
    try clear c5
    try clear c6
    try clear c6b0
    try clear c6b1
    try clear p6
    try clear c7
    try clear c7b0
    try clear c7b1
    try clear c8
    try clear c9
    try clear c10
    try clear c11
    try clear c13
    try clear c20
    try clear c21
    try clear c22
    try clear c24
    try clear c25
    try clear c28
    try clear c30
    try clear c32
    try clear c33
    try clear c34
    try clear c37
    try clear c38
    try clear c41
    try clear c44
    try clear c45
    try clear c46
    try clear c49
    try clear c50
    try clear c53
    try clear c54
    try clear c55
    try clear c58
    try clear c67
    try clear c68
    try clear c69
    try clear c71
    try clear c72
    try clear c78
    try clear c79
    try clear c80
    try clear c80b0
    try clear c80b1
    try clear c80b2
    try clear c81
    try clear c82
    try clear c83
    try clear c85
    try clear c86
    try clear c89
    try clear c90
    try clear c91
    try clear c93
    try clear c94
    try clear c97
    try clear c97b0
    try clear c97b1
    try clear c97b2
    try clear c98
    try clear c99
    try clear c100
    try clear c102
    try clear c103
    try clear c106
    try clear c107
    try clear c108
    try clear c110
    try clear c111
    try clear hcz101_0
    try clear hcz101_1
    try clear hcz101_2
    try clear hcz101_3
    try clear hcz104_0
    try clear hcz104_1
    try clear hcz104_2
    try clear hcz104_3
    try clear hcz109_0
    try clear hcz109_1
    try clear hcz109_2
    try clear hcz109_3
    try clear hcz112_0
    try clear hcz112_1
    try clear hcz112_2
    try clear hcz112_3
    try clear hcz14_0
    try clear hcz14_1
    try clear hcz14_2
    try clear hcz14_3
    try clear hcz15_0
    try clear hcz15_1
    try clear hcz15_2
    try clear hcz15_3
    try clear hcz23_0
    try clear hcz23_1
    try clear hcz23_2
    try clear hcz23_3
    try clear hcz26_0
    try clear hcz26_1
    try clear hcz26_2
    try clear hcz26_3
    try clear hcz35_0
    try clear hcz35_1
    try clear hcz35_2
    try clear hcz35_3
    try clear hcz39_0
    try clear hcz39_1
    try clear hcz39_2
    try clear hcz39_3
    try clear hcz42_0
    try clear hcz42_1
    try clear hcz42_2
    try clear hcz42_3
    try clear hcz47_0
    try clear hcz47_1
    try clear hcz47_2
    try clear hcz47_3
    try clear hcz51_0
    try clear hcz51_1
    try clear hcz51_2
    try clear hcz51_3
    try clear hcz56_0
    try clear hcz56_1
    try clear hcz56_2
    try clear hcz56_3
    try clear hcz70_0
    try clear hcz70_1
    try clear hcz70_2
    try clear hcz70_3
    try clear hcz73_0
    try clear hcz73_1
    try clear hcz73_2
    try clear hcz73_3
    try clear hcz75_0
    try clear hcz75_1
    try clear hcz75_2
    try clear hcz75_3
    try clear hcz76_0
    try clear hcz76_1
    try clear hcz76_2
    try clear hcz76_3
    try clear hcz84_0
    try clear hcz84_1
    try clear hcz84_2
    try clear hcz84_3
    try clear hcz87_0
    try clear hcz87_1
    try clear hcz87_2
    try clear hcz87_3
    try clear hcz92_0
    try clear hcz92_1
    try clear hcz92_2
    try clear hcz92_3
    try clear hcz95_0
    try clear hcz95_1
    try clear hcz95_2
    try clear hcz95_3
    try clear hfz101_0
    try clear hfz101_1
    try clear hfz101_2
    try clear hfz101_3
    try clear hfz104_0
    try clear hfz104_1
    try clear hfz104_2
    try clear hfz104_3
    try clear hfz109_0
    try clear hfz109_1
    try clear hfz109_2
    try clear hfz109_3
    try clear hfz112_0
    try clear hfz112_1
    try clear hfz112_2
    try clear hfz112_3
    try clear hfz14_0
    try clear hfz14_1
    try clear hfz14_2
    try clear hfz14_3
    try clear hfz15_0
    try clear hfz15_1
    try clear hfz15_2
    try clear hfz15_3
    try clear hfz23_0
    try clear hfz23_1
    try clear hfz23_2
    try clear hfz23_3
    try clear hfz26_0
    try clear hfz26_1
    try clear hfz26_2
    try clear hfz26_3
    try clear hfz35_0
    try clear hfz35_1
    try clear hfz35_2
    try clear hfz35_3
    try clear hfz39_0
    try clear hfz39_1
    try clear hfz39_2
    try clear hfz39_3
    try clear hfz42_0
    try clear hfz42_1
    try clear hfz42_2
    try clear hfz42_3
    try clear hfz47_0
    try clear hfz47_1
    try clear hfz47_2
    try clear hfz47_3
    try clear hfz51_0
    try clear hfz51_1
    try clear hfz51_2
    try clear hfz51_3
    try clear hfz56_0
    try clear hfz56_1
    try clear hfz56_2
    try clear hfz56_3
    try clear hfz70_0
    try clear hfz70_1
    try clear hfz70_2
    try clear hfz70_3
    try clear hfz73_0
    try clear hfz73_1
    try clear hfz73_2
    try clear hfz73_3
    try clear hfz75_0
    try clear hfz75_1
    try clear hfz75_2
    try clear hfz75_3
    try clear hfz76_0
    try clear hfz76_1
    try clear hfz76_2
    try clear hfz76_3
    try clear hfz84_0
    try clear hfz84_1
    try clear hfz84_2
    try clear hfz84_3
    try clear hfz87_0
    try clear hfz87_1
    try clear hfz87_2
    try clear hfz87_3
    try clear hfz92_0
    try clear hfz92_1
    try clear hfz92_2
    try clear hfz92_3
    try clear hfz95_0
    try clear hfz95_1
    try clear hfz95_2
    try clear hfz95_3
    try clear p2
    try clear p6
    obtain ⟨kq, x73_65, rfl, HA, HJ65, BK316, BK317, BK327, BK328, HB⟩ := hcut
    cases kq with
    | zero => exact absurd HA.out (by simp [laws_FnAhead.j1])
    | succ kj65 =>
     have H := HA.out
     clear HA
     simp only [laws_FnAhead.j1] at H
     by_cases c114 : x73_65 = true
     ·
      subst c114
      have H1 : (some false) = some r := by rw [if_pos rfl] at H; exact H
      clear H
      have H := H1
      clear H1
      exact absurd ((Option.some.inj H).trans HTRUE_.out) (by decide)
     replace c114 := Bool.eq_false_iff.mpr c114
     subst c114
     have H1 : ((impl_RecPair.f kj65 t308 t309 t310 t311 t312 t313 t314 t315).bind fun bt338 => ((impl_RecAhead.f kj65 bt338.2.2.2.2.1 bt338.2.2.2.2.2.1 bt338.2.2.2.2.2.2.1 bt338.2.2.2.2.2.2.2 bt338.1 bt338.2.1 bt338.2.2.1 bt338.2.2.2.1).bind fun t348 => (if t348 = true then (laws_FnAhead.j2 kj65 t334 true t308 t309 t310 t311 t312 t313 t314 t315 t319 t320 t321 t322) else (if (!(bt338.1 == t308) || (!(bt338.2.1 == t309) || (!(bt338.2.2.1 == t310) || (!(bt338.2.2.2.1.toList == t311.toList))))) = true then (if (!(bt338.1 == t312) || (!(bt338.2.1 == t313) || (!(bt338.2.2.1 == t314) || (!(bt338.2.2.2.1.toList == t315.toList))))) = true then (laws_FnAhead.j2 kj65 t334 true t308 t309 t310 t311 t312 t313 t314 t315 t319 t320 t321 t322) else (if (!(bt338.2.2.2.2.1 == t308) || (!(bt338.2.2.2.2.2.1 == t309) || (!(bt338.2.2.2.2.2.2.1 == t310) || (!(bt338.2.2.2.2.2.2.2.toList == t311.toList))))) = true then (if (!(bt338.2.2.2.2.1 == t312) || (!(bt338.2.2.2.2.2.1 == t313) || (!(bt338.2.2.2.2.2.2.1 == t314) || (!(bt338.2.2.2.2.2.2.2.toList == t315.toList))))) = true then (laws_FnAhead.j2 kj65 t334 true t308 t309 t310 t311 t312 t313 t314 t315 t319 t320 t321 t322) else (laws_FnAhead.j2 kj65 t334 ((bt338.1 == bt338.2.2.2.2.1 && (bt338.2.1 == bt338.2.2.2.2.2.1 && (bt338.2.2.1 == bt338.2.2.2.2.2.2.1 && (bt338.2.2.2.1.toList == bt338.2.2.2.2.2.2.2.toList)))) != (t308 == t312 && (t309 == t313 && (t310 == t314 && (t311.toList == t315.toList))))) t308 t309 t310 t311 t312 t313 t314 t315 t319 t320 t321 t322)) else (laws_FnAhead.j2 kj65 t334 ((bt338.1 == bt338.2.2.2.2.1 && (bt338.2.1 == bt338.2.2.2.2.2.1 && (bt338.2.2.1 == bt338.2.2.2.2.2.2.1 && (bt338.2.2.2.1.toList == bt338.2.2.2.2.2.2.2.toList)))) != (t308 == t312 && (t309 == t313 && (t310 == t314 && (t311.toList == t315.toList))))) t308 t309 t310 t311 t312 t313 t314 t315 t319 t320 t321 t322))) else (if (!(bt338.2.2.2.2.1 == t308) || (!(bt338.2.2.2.2.2.1 == t309) || (!(bt338.2.2.2.2.2.2.1 == t310) || (!(bt338.2.2.2.2.2.2.2.toList == t311.toList))))) = true then (if (!(bt338.2.2.2.2.1 == t312) || (!(bt338.2.2.2.2.2.1 == t313) || (!(bt338.2.2.2.2.2.2.1 == t314) || (!(bt338.2.2.2.2.2.2.2.toList == t315.toList))))) = true then (laws_FnAhead.j2 kj65 t334 true t308 t309 t310 t311 t312 t313 t314 t315 t319 t320 t321 t322) else (laws_FnAhead.j2 kj65 t334 ((bt338.1 == bt338.2.2.2.2.1 && (bt338.2.1 == bt338.2.2.2.2.2.1 && (bt338.2.2.1 == bt338.2.2.2.2.2.2.1 && (bt338.2.2.2.1.toList == bt338.2.2.2.2.2.2.2.toList)))) != (t308 == t312 && (t309 == t313 && (t310 == t314 && (t311.toList == t315.toList))))) t308 t309 t310 t311 t312 t313 t314 t315 t319 t320 t321 t322)) else (laws_FnAhead.j2 kj65 t334 ((bt338.1 == bt338.2.2.2.2.1 && (bt338.2.1 == bt338.2.2.2.2.2.1 && (bt338.2.2.1 == bt338.2.2.2.2.2.2.1 && (bt338.2.2.2.1.toList == bt338.2.2.2.2.2.2.2.toList)))) != (t308 == t312 && (t309 == t313 && (t310 == t314 && (t311.toList == t315.toList))))) t308 t309 t310 t311 t312 t313 t314 t315 t319 t320 t321 t322)))))) = some r := by rw [if_neg (show ¬ (false = true) by decide)] at H; exact H
     clear H
     have H := H1
     clear H1
     replace H := Option.bind_eq_some_iff.mp H
     obtain ⟨⟨t338, t339, t340, t341, t342, t343, t344, t345⟩, A1150, H⟩ := H
     replace H : ((impl_RecAhead.f kj65 t342 t343 t344 t345 t338 t339 t340 t341).bind fun t348 => (if t348 = true then (laws_FnAhead.j2 kj65 t334 true t308 t309 t310 t311 t312 t313 t314 t315 t319 t320 t321 t322) else (if (!(t338 == t308) || (!(t339 == t309) || (!(t340 == t310) || (!(t341.toList == t311.toList))))) = true then (if (!(t338 == t312) || (!(t339 == t313) || (!(t340 == t314) || (!(t341.toList == t315.toList))))) = true then (laws_FnAhead.j2 kj65 t334 true t308 t309 t310 t311 t312 t313 t314 t315 t319 t320 t321 t322) else (if (!(t342 == t308) || (!(t343 == t309) || (!(t344 == t310) || (!(t345.toList == t311.toList))))) = true then (if (!(t342 == t312) || (!(t343 == t313) || (!(t344 == t314) || (!(t345.toList == t315.toList))))) = true then (laws_FnAhead.j2 kj65 t334 true t308 t309 t310 t311 t312 t313 t314 t315 t319 t320 t321 t322) else (laws_FnAhead.j2 kj65 t334 ((t338 == t342 && (t339 == t343 && (t340 == t344 && (t341.toList == t345.toList)))) != (t308 == t312 && (t309 == t313 && (t310 == t314 && (t311.toList == t315.toList))))) t308 t309 t310 t311 t312 t313 t314 t315 t319 t320 t321 t322)) else (laws_FnAhead.j2 kj65 t334 ((t338 == t342 && (t339 == t343 && (t340 == t344 && (t341.toList == t345.toList)))) != (t308 == t312 && (t309 == t313 && (t310 == t314 && (t311.toList == t315.toList))))) t308 t309 t310 t311 t312 t313 t314 t315 t319 t320 t321 t322))) else (if (!(t342 == t308) || (!(t343 == t309) || (!(t344 == t310) || (!(t345.toList == t311.toList))))) = true then (if (!(t342 == t312) || (!(t343 == t313) || (!(t344 == t314) || (!(t345.toList == t315.toList))))) = true then (laws_FnAhead.j2 kj65 t334 true t308 t309 t310 t311 t312 t313 t314 t315 t319 t320 t321 t322) else (laws_FnAhead.j2 kj65 t334 ((t338 == t342 && (t339 == t343 && (t340 == t344 && (t341.toList == t345.toList)))) != (t308 == t312 && (t309 == t313 && (t310 == t314 && (t311.toList == t315.toList))))) t308 t309 t310 t311 t312 t313 t314 t315 t319 t320 t321 t322)) else (laws_FnAhead.j2 kj65 t334 ((t338 == t342 && (t339 == t343 && (t340 == t344 && (t341.toList == t345.toList)))) != (t308 == t312 && (t309 == t313 && (t310 == t314 && (t311.toList == t315.toList))))) t308 t309 t310 t311 t312 t313 t314 t315 t319 t320 t321 t322))))) = some r := H
     have A115 := Aside0.mk A1150
     clear A1150
     have HC116 := Aside0.mk H
     clear H
     have hnb117 := NB316_317.out
     have hnc117 := NB317_316.out
     have hnb118 := NB316_327.out
     have hnc118 := NB327_316.out
     have hnb119 := NB316_328.out
     have hnc119 := NB328_316.out
     have hcz120_0 : wc.cell? ⟨gb316, 0, none⟩ = some (.bool t308) := b3_ BK316.out 0 rfl
     have hcz120_1 : wc.cell? ⟨gb316, 1, none⟩ = some (.int .i64 t309) := b3_ BK316.out 1 rfl
     have hcz120_2 : wc.cell? ⟨gb316, 2, none⟩ = some (.int .i64 t310) := b3_ BK316.out 2 rfl
     have hcz120_3 : wc.cell? ⟨gb316, 3, none⟩ = some (.string t311) := b3_ BK316.out 3 rfl
     have hfz120_0 := blk_frozen BK316.out 0
     have hfz120_1 := blk_frozen BK316.out 1
     have hfz120_2 := blk_frozen BK316.out 2
     have hfz120_3 := blk_frozen BK316.out 3
     have hnb121 := NB317_327.out
     have hnc121 := NB327_317.out
     have hnb122 := NB317_328.out
     have hnc122 := NB328_317.out
     have hcz123_0 : wc.cell? ⟨gb317, 0, none⟩ = some (.bool t312) := b3_ BK317.out 0 rfl
     have hcz123_1 : wc.cell? ⟨gb317, 1, none⟩ = some (.int .i64 t313) := b3_ BK317.out 1 rfl
     have hcz123_2 : wc.cell? ⟨gb317, 2, none⟩ = some (.int .i64 t314) := b3_ BK317.out 2 rfl
     have hcz123_3 : wc.cell? ⟨gb317, 3, none⟩ = some (.string t315) := b3_ BK317.out 3 rfl
     have hfz123_0 := blk_frozen BK317.out 0
     have hfz123_1 := blk_frozen BK317.out 1
     have hfz123_2 := blk_frozen BK317.out 2
     have hfz123_3 := blk_frozen BK317.out 3
     go_upto_region 12 with (first | ((with_reducible refine gate_callee (f := 9) rfl ?_); refine goesL_ (some 77) rfl rfl Try.func9 (by kernel_rfl) rfl #[.agg #[.bool t308, .int .i64 t309, .int .i64 t310, .string t311], .agg #[.bool t312, .int .i64 t313, .int .i64 t314, .string t315]] rfl (by (try simp only [List.map_toArray, List.map_cons, List.map_nil]); rfl) ?_; (with_reducible refine (impl_RecPair.calls kj65 t308 t309 t310 t311 t312 t313 t314 t315 t338 t339 t340 t341 t342 t343 t344 t345 _ A115.out).mono ?_); rintro e w124 ⟨rfl, hb⟩; refine ⟨_, rfl, ?_⟩; have n0_ := Aside0.mk (blk_below BK316.out hb); have n1_ := Aside0.mk (blk_below BK317.out hb); have n2_ := Aside0.mk (blk_below BK327.out hb); have n3_ := Aside0.mk (blk_below BK328.out hb); have n4_ := Aside0.mk (below_step (by repeat ((with_reducible exact HB.out))) hb); replace BK316 := n0_; replace BK317 := n1_; replace BK327 := n2_; replace BK328 := n3_; replace HB := n4_; clear n0_ n1_ n2_ n3_ n4_; (try clear hb); (try clear hb2); (try clear hk); (try clear hi)) | ((with_reducible refine gate_dst (N := 9) rfl ?_); refine box_event ?hg (N := 9) ?hd (cs := #[.bool false, .int .i64 0, .int .i64 0, .string (⟨#[]⟩ : ByteArray)]) (t := 25) ?hr ?_; (case hd => rfl); (case hg => rfl); (case hr => (go_simp; done)); intro gb346 hg w125 hbox hb; have n0_ := Aside0.mk (blk_below BK316.out hb); have n1_ := Aside0.mk (blk_below BK317.out hb); have n2_ := Aside0.mk (blk_below BK327.out hb); have n3_ := Aside0.mk (blk_below BK328.out hb); have n4_ := Aside0.mk (below_step (by repeat ((with_reducible exact HB.out))) hb); have n5_ := Aside0.mk (hbox); have n6_ := Aside0.mk ((by rw [hg]; exact (below_size (by repeat ((with_reducible exact HB.out)))) : w.heap.size ≤ gb346)); have n7_ := Aside0.mk ((by rw [hg]; exact (below_size (by repeat ((with_reducible exact HB.out)))) : w.heap.size ≤ gb346)); have n8_ := Aside0.mk ((by rw [hg]; exact Nat.ne_of_lt (blk_lt BK316.out) : gb316 ≠ gb346)); have n9_ := Aside0.mk ((by rw [hg]; exact Nat.ne_of_gt (blk_lt BK316.out) : gb346 ≠ gb316)); have n10_ := Aside0.mk ((by rw [hg]; exact Nat.ne_of_lt (blk_lt BK317.out) : gb317 ≠ gb346)); have n11_ := Aside0.mk ((by rw [hg]; exact Nat.ne_of_gt (blk_lt BK317.out) : gb346 ≠ gb317)); have n12_ := Aside0.mk ((by rw [hg]; exact Nat.ne_of_lt (blk_lt BK327.out) : gb327 ≠ gb346)); have n13_ := Aside0.mk ((by rw [hg]; exact Nat.ne_of_gt (blk_lt BK327.out) : gb346 ≠ gb327)); have n14_ := Aside0.mk ((by rw [hg]; exact Nat.ne_of_lt (blk_lt BK328.out) : gb328 ≠ gb346)); have n15_ := Aside0.mk ((by rw [hg]; exact Nat.ne_of_gt (blk_lt BK328.out) : gb346 ≠ gb328)); replace BK316 := n0_; replace BK317 := n1_; replace BK327 := n2_; replace BK328 := n3_; replace HB := n4_; have BK346 := n5_; have GW346 := n6_; have GE346 := n7_; have NB316_346 := n8_; have NB346_316 := n9_; have NB317_346 := n10_; have NB346_317 := n11_; have NB327_346 := n12_; have NB346_327 := n13_; have NB328_346 := n14_; have NB346_328 := n15_; clear n0_ n1_ n2_ n3_ n4_ n5_ n6_ n7_ n8_ n9_ n10_ n11_ n12_ n13_ n14_ n15_; clear hb hbox hg) | ((with_reducible refine gate_dst (N := 10) rfl ?_); refine box_event ?hg (N := 10) ?hd (cs := #[.bool false, .int .i64 0, .int .i64 0, .string (⟨#[]⟩ : ByteArray)]) (t := 25) ?hr ?_; (case hd => rfl); (case hg => rfl); (case hr => (go_simp; done)); intro gb347 hg w126 hbox hb; have n0_ := Aside0.mk (blk_below BK316.out hb); have n1_ := Aside0.mk (blk_below BK317.out hb); have n2_ := Aside0.mk (blk_below BK327.out hb); have n3_ := Aside0.mk (blk_below BK328.out hb); have n4_ := Aside0.mk (blk_below BK346.out hb); have n5_ := Aside0.mk (below_step (by repeat ((with_reducible exact HB.out))) hb); have n6_ := Aside0.mk (hbox); have n7_ := Aside0.mk ((by rw [hg]; exact (below_size (by repeat ((with_reducible exact HB.out)))) : w.heap.size ≤ gb347)); have n8_ := Aside0.mk ((by rw [hg]; exact (below_size (by repeat ((with_reducible exact HB.out)))) : w.heap.size ≤ gb347)); have n9_ := Aside0.mk ((by rw [hg]; exact Nat.ne_of_lt (blk_lt BK316.out) : gb316 ≠ gb347)); have n10_ := Aside0.mk ((by rw [hg]; exact Nat.ne_of_gt (blk_lt BK316.out) : gb347 ≠ gb316)); have n11_ := Aside0.mk ((by rw [hg]; exact Nat.ne_of_lt (blk_lt BK317.out) : gb317 ≠ gb347)); have n12_ := Aside0.mk ((by rw [hg]; exact Nat.ne_of_gt (blk_lt BK317.out) : gb347 ≠ gb317)); have n13_ := Aside0.mk ((by rw [hg]; exact Nat.ne_of_lt (blk_lt BK327.out) : gb327 ≠ gb347)); have n14_ := Aside0.mk ((by rw [hg]; exact Nat.ne_of_gt (blk_lt BK327.out) : gb347 ≠ gb327)); have n15_ := Aside0.mk ((by rw [hg]; exact Nat.ne_of_lt (blk_lt BK328.out) : gb328 ≠ gb347)); have n16_ := Aside0.mk ((by rw [hg]; exact Nat.ne_of_gt (blk_lt BK328.out) : gb347 ≠ gb328)); have n17_ := Aside0.mk ((by rw [hg]; exact Nat.ne_of_lt (blk_lt BK346.out) : gb346 ≠ gb347)); have n18_ := Aside0.mk ((by rw [hg]; exact Nat.ne_of_gt (blk_lt BK346.out) : gb347 ≠ gb346)); replace BK316 := n0_; replace BK317 := n1_; replace BK327 := n2_; replace BK328 := n3_; replace BK346 := n4_; replace HB := n5_; have BK347 := n6_; have GW347 := n7_; have GE347 := n8_; have NB316_347 := n9_; have NB347_316 := n10_; have NB317_347 := n11_; have NB347_317 := n12_; have NB327_347 := n13_; have NB347_327 := n14_; have NB328_347 := n15_; have NB347_328 := n16_; have NB346_347 := n17_; have NB347_346 := n18_; clear n0_ n1_ n2_ n3_ n4_ n5_ n6_ n7_ n8_ n9_ n10_ n11_ n12_ n13_ n14_ n15_ n16_ n17_ n18_; clear hb hbox hg; have hnb127 := NB346_316.out; have hnc127 := NB316_346.out; have hnb128 := NB346_317.out; have hnc128 := NB317_346.out; have hnb129 := NB346_327.out; have hnc129 := NB327_346.out; have hnb130 := NB346_328.out; have hnc130 := NB328_346.out; have hnb131 := NB346_347.out; have hnc131 := NB347_346.out; have hcz132_0 : w126.cell? ⟨gb346, 0, none⟩ = some (.bool false) := b3_ BK346.out 0 rfl; have hcz132_1 : w126.cell? ⟨gb346, 1, none⟩ = some (.int .i64 0) := b3_ BK346.out 1 rfl; have hcz132_2 : w126.cell? ⟨gb346, 2, none⟩ = some (.int .i64 0) := b3_ BK346.out 2 rfl; have hcz132_3 : w126.cell? ⟨gb346, 3, none⟩ = some (.string (⟨#[]⟩ : ByteArray)) := b3_ BK346.out 3 rfl; have hfz132_0 := blk_frozen BK346.out 0; have hfz132_1 := blk_frozen BK346.out 1; have hfz132_2 := blk_frozen BK346.out 2; have hfz132_3 := blk_frozen BK346.out 3; have hnb133 := NB347_316.out; have hnc133 := NB316_347.out; have hnb134 := NB347_317.out; have hnc134 := NB317_347.out; have hnb135 := NB347_327.out; have hnc135 := NB327_347.out; have hnb136 := NB347_328.out; have hnc136 := NB328_347.out; have hcz137_0 : w126.cell? ⟨gb347, 0, none⟩ = some (.bool false) := b3_ BK347.out 0 rfl; have hcz137_1 : w126.cell? ⟨gb347, 1, none⟩ = some (.int .i64 0) := b3_ BK347.out 1 rfl; have hcz137_2 : w126.cell? ⟨gb347, 2, none⟩ = some (.int .i64 0) := b3_ BK347.out 2 rfl; have hcz137_3 : w126.cell? ⟨gb347, 3, none⟩ = some (.string (⟨#[]⟩ : ByteArray)) := b3_ BK347.out 3 rfl; have hfz137_0 := blk_frozen BK347.out 0; have hfz137_1 := blk_frozen BK347.out 1; have hfz137_2 := blk_frozen BK347.out 2; have hfz137_3 := blk_frozen BK347.out 3))
     (try simp only [Act.put, List.setIfInBounds_toArray, List.set_cons_zero, List.set_cons_succ])
     go_cut [111] (fun v111 wc => ∃ (kq : Nat) (x111_115 : Bool), v111 = .bool x111_115 ∧ Aside0 (laws_FnAhead.j2 kq t334 x111_115 t308 t309 t310 t311 t312 t313 t314 t315 t319 t320 t321 t322 = some r) ∧ Aside0 (kq ≤ kj65) ∧ Aside0 (wc.heap[gb316]? = some (.cells #[.bool t308, .int .i64 t309, .int .i64 t310, .string t311] 25 (0, 0))) ∧ Aside0 (wc.heap[gb317]? = some (.cells #[.bool t312, .int .i64 t313, .int .i64 t314, .string t315] 25 (0, 0))) ∧ Aside0 (wc.heap[gb327]? = some (.cells #[.bool t319, .int .i64 t320, .int .i64 t321, .string t322] 25 (0, 0))) ∧ Aside0 (wc.heap[gb328]? = some (.cells #[.bool t323, .int .i64 t324, .int .i64 t325, .string t326] 25 (0, 0))) ∧ Aside0 (wc.heap[gb346]? = some (.cells #[.bool t338, .int .i64 t339, .int .i64 t340, .string t341] 25 (0, 0))) ∧ Aside0 (wc.heap[gb347]? = some (.cells #[.bool t342, .int .i64 t343, .int .i64 t344, .string t345] 25 (0, 0))) ∧ Aside0 (Below w.heap.size w wc))
     case first =>
      have H := HC116.out
      clear HC116
      replace H := Option.bind_eq_some_iff.mp H
      obtain ⟨t348, A1380, H⟩ := H
      replace H : (if t348 = true then (laws_FnAhead.j2 kj65 t334 true t308 t309 t310 t311 t312 t313 t314 t315 t319 t320 t321 t322) else (if (!(t338 == t308) || (!(t339 == t309) || (!(t340 == t310) || (!(t341.toList == t311.toList))))) = true then (if (!(t338 == t312) || (!(t339 == t313) || (!(t340 == t314) || (!(t341.toList == t315.toList))))) = true then (laws_FnAhead.j2 kj65 t334 true t308 t309 t310 t311 t312 t313 t314 t315 t319 t320 t321 t322) else (if (!(t342 == t308) || (!(t343 == t309) || (!(t344 == t310) || (!(t345.toList == t311.toList))))) = true then (if (!(t342 == t312) || (!(t343 == t313) || (!(t344 == t314) || (!(t345.toList == t315.toList))))) = true then (laws_FnAhead.j2 kj65 t334 true t308 t309 t310 t311 t312 t313 t314 t315 t319 t320 t321 t322) else (laws_FnAhead.j2 kj65 t334 ((t338 == t342 && (t339 == t343 && (t340 == t344 && (t341.toList == t345.toList)))) != (t308 == t312 && (t309 == t313 && (t310 == t314 && (t311.toList == t315.toList))))) t308 t309 t310 t311 t312 t313 t314 t315 t319 t320 t321 t322)) else (laws_FnAhead.j2 kj65 t334 ((t338 == t342 && (t339 == t343 && (t340 == t344 && (t341.toList == t345.toList)))) != (t308 == t312 && (t309 == t313 && (t310 == t314 && (t311.toList == t315.toList))))) t308 t309 t310 t311 t312 t313 t314 t315 t319 t320 t321 t322))) else (if (!(t342 == t308) || (!(t343 == t309) || (!(t344 == t310) || (!(t345.toList == t311.toList))))) = true then (if (!(t342 == t312) || (!(t343 == t313) || (!(t344 == t314) || (!(t345.toList == t315.toList))))) = true then (laws_FnAhead.j2 kj65 t334 true t308 t309 t310 t311 t312 t313 t314 t315 t319 t320 t321 t322) else (laws_FnAhead.j2 kj65 t334 ((t338 == t342 && (t339 == t343 && (t340 == t344 && (t341.toList == t345.toList)))) != (t308 == t312 && (t309 == t313 && (t310 == t314 && (t311.toList == t315.toList))))) t308 t309 t310 t311 t312 t313 t314 t315 t319 t320 t321 t322)) else (laws_FnAhead.j2 kj65 t334 ((t338 == t342 && (t339 == t343 && (t340 == t344 && (t341.toList == t345.toList)))) != (t308 == t312 && (t309 == t313 && (t310 == t314 && (t311.toList == t315.toList))))) t308 t309 t310 t311 t312 t313 t314 t315 t319 t320 t321 t322)))) = some r := H
      have A138 := Aside0.mk A1380
      clear A1380
      by_cases c139 : t348 = true
      ·
       subst c139
       have H1 : (laws_FnAhead.j2 kj65 t334 true t308 t309 t310 t311 t312 t313 t314 t315 t319 t320 t321 t322) = some r := by rw [if_pos rfl] at H; exact H
       clear H
       have H := H1
       clear H1
       exact (laws_FnAhead.j2_no H HTRUE_.out).elim
      replace c139 := Bool.eq_false_iff.mpr c139
      subst c139
      have H1 : (if (!(t338 == t308) || (!(t339 == t309) || (!(t340 == t310) || (!(t341.toList == t311.toList))))) = true then (if (!(t338 == t312) || (!(t339 == t313) || (!(t340 == t314) || (!(t341.toList == t315.toList))))) = true then (laws_FnAhead.j2 kj65 t334 true t308 t309 t310 t311 t312 t313 t314 t315 t319 t320 t321 t322) else (if (!(t342 == t308) || (!(t343 == t309) || (!(t344 == t310) || (!(t345.toList == t311.toList))))) = true then (if (!(t342 == t312) || (!(t343 == t313) || (!(t344 == t314) || (!(t345.toList == t315.toList))))) = true then (laws_FnAhead.j2 kj65 t334 true t308 t309 t310 t311 t312 t313 t314 t315 t319 t320 t321 t322) else (laws_FnAhead.j2 kj65 t334 ((t338 == t342 && (t339 == t343 && (t340 == t344 && (t341.toList == t345.toList)))) != (t308 == t312 && (t309 == t313 && (t310 == t314 && (t311.toList == t315.toList))))) t308 t309 t310 t311 t312 t313 t314 t315 t319 t320 t321 t322)) else (laws_FnAhead.j2 kj65 t334 ((t338 == t342 && (t339 == t343 && (t340 == t344 && (t341.toList == t345.toList)))) != (t308 == t312 && (t309 == t313 && (t310 == t314 && (t311.toList == t315.toList))))) t308 t309 t310 t311 t312 t313 t314 t315 t319 t320 t321 t322))) else (if (!(t342 == t308) || (!(t343 == t309) || (!(t344 == t310) || (!(t345.toList == t311.toList))))) = true then (if (!(t342 == t312) || (!(t343 == t313) || (!(t344 == t314) || (!(t345.toList == t315.toList))))) = true then (laws_FnAhead.j2 kj65 t334 true t308 t309 t310 t311 t312 t313 t314 t315 t319 t320 t321 t322) else (laws_FnAhead.j2 kj65 t334 ((t338 == t342 && (t339 == t343 && (t340 == t344 && (t341.toList == t345.toList)))) != (t308 == t312 && (t309 == t313 && (t310 == t314 && (t311.toList == t315.toList))))) t308 t309 t310 t311 t312 t313 t314 t315 t319 t320 t321 t322)) else (laws_FnAhead.j2 kj65 t334 ((t338 == t342 && (t339 == t343 && (t340 == t344 && (t341.toList == t345.toList)))) != (t308 == t312 && (t309 == t313 && (t310 == t314 && (t311.toList == t315.toList))))) t308 t309 t310 t311 t312 t313 t314 t315 t319 t320 t321 t322))) = some r := by rw [if_neg (show ¬ (false = true) by decide)] at H; exact H
      clear H
      have H := H1
      clear H1
      by_cases c143 : (!(t338 == t308) || (!(t339 == t309) || (!(t340 == t310) || (!(t341.toList == t311.toList))))) = true
      rotate_left
      ·
       rw [if_neg c143] at H
       have c143b0 : (!(t338 == t308) || (!(t339 == t309) || (!(t340 == t310) || (!(t341.toList == t311.toList))))) = false := by simpa using c143
       clear c143
       (skip)
       by_cases c159 : (!(t342 == t308) || (!(t343 == t309) || (!(t344 == t310) || (!(t345.toList == t311.toList))))) = true
       rotate_left
       ·
        rw [if_neg c159] at H
        have c159b0 : (!(t342 == t308) || (!(t343 == t309) || (!(t344 == t310) || (!(t345.toList == t311.toList))))) = false := by simpa using c159
        clear c159
        have H' := Aside0.mk H
        clear H
        try go_wp2
        have n0_ : Aside0 (((((((((w126.setCell ⟨gb346, 0, none⟩ (.bool t338)).setCell ⟨gb346, 1, none⟩ (.int .i64 t339)).setCell ⟨gb346, 2, none⟩ (.int .i64 t340)).setCell ⟨gb346, 3, none⟩ (.string t341)).setCell ⟨gb347, 0, none⟩ (.bool t342)).setCell ⟨gb347, 1, none⟩ (.int .i64 t343)).setCell ⟨gb347, 2, none⟩ (.int .i64 t344)).setCell ⟨gb347, 3, none⟩ (.string t345)).heap[gb316]? = some (.cells #[.bool t308, .int .i64 t309, .int .i64 t310, .string t311] 25 (0, 0))) := ⟨by (with_reducible repeat (first | refine blk_drewN ?_ _ | refine blk_drew ?_ | refine blk_alloc ?_ _)); refine blk_far ?_ NB316_347.out _; (with_reducible repeat (first | refine blk_drewN ?_ _ | refine blk_drew ?_ | refine blk_alloc ?_ _)); refine blk_far ?_ NB316_347.out _; (with_reducible repeat (first | refine blk_drewN ?_ _ | refine blk_drew ?_ | refine blk_alloc ?_ _)); refine blk_far ?_ NB316_347.out _; (with_reducible repeat (first | refine blk_drewN ?_ _ | refine blk_drew ?_ | refine blk_alloc ?_ _)); refine blk_far ?_ NB316_347.out _; (with_reducible repeat (first | refine blk_drewN ?_ _ | refine blk_drew ?_ | refine blk_alloc ?_ _)); refine blk_far ?_ NB316_346.out _; (with_reducible repeat (first | refine blk_drewN ?_ _ | refine blk_drew ?_ | refine blk_alloc ?_ _)); refine blk_far ?_ NB316_346.out _; (with_reducible repeat (first | refine blk_drewN ?_ _ | refine blk_drew ?_ | refine blk_alloc ?_ _)); refine blk_far ?_ NB316_346.out _; (with_reducible repeat (first | refine blk_drewN ?_ _ | refine blk_drew ?_ | refine blk_alloc ?_ _)); refine blk_far ?_ NB316_346.out _; (with_reducible repeat (first | refine blk_drewN ?_ _ | refine blk_drew ?_ | refine blk_alloc ?_ _)); exact BK316.out⟩
        have n1_ : Aside0 (((((((((w126.setCell ⟨gb346, 0, none⟩ (.bool t338)).setCell ⟨gb346, 1, none⟩ (.int .i64 t339)).setCell ⟨gb346, 2, none⟩ (.int .i64 t340)).setCell ⟨gb346, 3, none⟩ (.string t341)).setCell ⟨gb347, 0, none⟩ (.bool t342)).setCell ⟨gb347, 1, none⟩ (.int .i64 t343)).setCell ⟨gb347, 2, none⟩ (.int .i64 t344)).setCell ⟨gb347, 3, none⟩ (.string t345)).heap[gb317]? = some (.cells #[.bool t312, .int .i64 t313, .int .i64 t314, .string t315] 25 (0, 0))) := ⟨by (with_reducible repeat (first | refine blk_drewN ?_ _ | refine blk_drew ?_ | refine blk_alloc ?_ _)); refine blk_far ?_ NB317_347.out _; (with_reducible repeat (first | refine blk_drewN ?_ _ | refine blk_drew ?_ | refine blk_alloc ?_ _)); refine blk_far ?_ NB317_347.out _; (with_reducible repeat (first | refine blk_drewN ?_ _ | refine blk_drew ?_ | refine blk_alloc ?_ _)); refine blk_far ?_ NB317_347.out _; (with_reducible repeat (first | refine blk_drewN ?_ _ | refine blk_drew ?_ | refine blk_alloc ?_ _)); refine blk_far ?_ NB317_347.out _; (with_reducible repeat (first | refine blk_drewN ?_ _ | refine blk_drew ?_ | refine blk_alloc ?_ _)); refine blk_far ?_ NB317_346.out _; (with_reducible repeat (first | refine blk_drewN ?_ _ | refine blk_drew ?_ | refine blk_alloc ?_ _)); refine blk_far ?_ NB317_346.out _; (with_reducible repeat (first | refine blk_drewN ?_ _ | refine blk_drew ?_ | refine blk_alloc ?_ _)); refine blk_far ?_ NB317_346.out _; (with_reducible repeat (first | refine blk_drewN ?_ _ | refine blk_drew ?_ | refine blk_alloc ?_ _)); refine blk_far ?_ NB317_346.out _; (with_reducible repeat (first | refine blk_drewN ?_ _ | refine blk_drew ?_ | refine blk_alloc ?_ _)); exact BK317.out⟩
        have n2_ : Aside0 (((((((((w126.setCell ⟨gb346, 0, none⟩ (.bool t338)).setCell ⟨gb346, 1, none⟩ (.int .i64 t339)).setCell ⟨gb346, 2, none⟩ (.int .i64 t340)).setCell ⟨gb346, 3, none⟩ (.string t341)).setCell ⟨gb347, 0, none⟩ (.bool t342)).setCell ⟨gb347, 1, none⟩ (.int .i64 t343)).setCell ⟨gb347, 2, none⟩ (.int .i64 t344)).setCell ⟨gb347, 3, none⟩ (.string t345)).heap[gb327]? = some (.cells #[.bool t319, .int .i64 t320, .int .i64 t321, .string t322] 25 (0, 0))) := ⟨by (with_reducible repeat (first | refine blk_drewN ?_ _ | refine blk_drew ?_ | refine blk_alloc ?_ _)); refine blk_far ?_ NB327_347.out _; (with_reducible repeat (first | refine blk_drewN ?_ _ | refine blk_drew ?_ | refine blk_alloc ?_ _)); refine blk_far ?_ NB327_347.out _; (with_reducible repeat (first | refine blk_drewN ?_ _ | refine blk_drew ?_ | refine blk_alloc ?_ _)); refine blk_far ?_ NB327_347.out _; (with_reducible repeat (first | refine blk_drewN ?_ _ | refine blk_drew ?_ | refine blk_alloc ?_ _)); refine blk_far ?_ NB327_347.out _; (with_reducible repeat (first | refine blk_drewN ?_ _ | refine blk_drew ?_ | refine blk_alloc ?_ _)); refine blk_far ?_ NB327_346.out _; (with_reducible repeat (first | refine blk_drewN ?_ _ | refine blk_drew ?_ | refine blk_alloc ?_ _)); refine blk_far ?_ NB327_346.out _; (with_reducible repeat (first | refine blk_drewN ?_ _ | refine blk_drew ?_ | refine blk_alloc ?_ _)); refine blk_far ?_ NB327_346.out _; (with_reducible repeat (first | refine blk_drewN ?_ _ | refine blk_drew ?_ | refine blk_alloc ?_ _)); refine blk_far ?_ NB327_346.out _; (with_reducible repeat (first | refine blk_drewN ?_ _ | refine blk_drew ?_ | refine blk_alloc ?_ _)); exact BK327.out⟩
        have n3_ : Aside0 (((((((((w126.setCell ⟨gb346, 0, none⟩ (.bool t338)).setCell ⟨gb346, 1, none⟩ (.int .i64 t339)).setCell ⟨gb346, 2, none⟩ (.int .i64 t340)).setCell ⟨gb346, 3, none⟩ (.string t341)).setCell ⟨gb347, 0, none⟩ (.bool t342)).setCell ⟨gb347, 1, none⟩ (.int .i64 t343)).setCell ⟨gb347, 2, none⟩ (.int .i64 t344)).setCell ⟨gb347, 3, none⟩ (.string t345)).heap[gb328]? = some (.cells #[.bool t323, .int .i64 t324, .int .i64 t325, .string t326] 25 (0, 0))) := ⟨by (with_reducible repeat (first | refine blk_drewN ?_ _ | refine blk_drew ?_ | refine blk_alloc ?_ _)); refine blk_far ?_ NB328_347.out _; (with_reducible repeat (first | refine blk_drewN ?_ _ | refine blk_drew ?_ | refine blk_alloc ?_ _)); refine blk_far ?_ NB328_347.out _; (with_reducible repeat (first | refine blk_drewN ?_ _ | refine blk_drew ?_ | refine blk_alloc ?_ _)); refine blk_far ?_ NB328_347.out _; (with_reducible repeat (first | refine blk_drewN ?_ _ | refine blk_drew ?_ | refine blk_alloc ?_ _)); refine blk_far ?_ NB328_347.out _; (with_reducible repeat (first | refine blk_drewN ?_ _ | refine blk_drew ?_ | refine blk_alloc ?_ _)); refine blk_far ?_ NB328_346.out _; (with_reducible repeat (first | refine blk_drewN ?_ _ | refine blk_drew ?_ | refine blk_alloc ?_ _)); refine blk_far ?_ NB328_346.out _; (with_reducible repeat (first | refine blk_drewN ?_ _ | refine blk_drew ?_ | refine blk_alloc ?_ _)); refine blk_far ?_ NB328_346.out _; (with_reducible repeat (first | refine blk_drewN ?_ _ | refine blk_drew ?_ | refine blk_alloc ?_ _)); refine blk_far ?_ NB328_346.out _; (with_reducible repeat (first | refine blk_drewN ?_ _ | refine blk_drew ?_ | refine blk_alloc ?_ _)); exact BK328.out⟩
        have n4_ : Aside0 (((((((((w126.setCell ⟨gb346, 0, none⟩ (.bool t338)).setCell ⟨gb346, 1, none⟩ (.int .i64 t339)).setCell ⟨gb346, 2, none⟩ (.int .i64 t340)).setCell ⟨gb346, 3, none⟩ (.string t341)).setCell ⟨gb347, 0, none⟩ (.bool t342)).setCell ⟨gb347, 1, none⟩ (.int .i64 t343)).setCell ⟨gb347, 2, none⟩ (.int .i64 t344)).setCell ⟨gb347, 3, none⟩ (.string t345)).heap[gb346]? = some (.cells #[.bool t338, .int .i64 t339, .int .i64 t340, .string t341] 25 (0, 0))) := ⟨by (with_reducible repeat (first | refine blk_drewN ?_ _ | refine blk_drew ?_ | refine blk_alloc ?_ _)); refine blk_far ?_ NB346_347.out _; (with_reducible repeat (first | refine blk_drewN ?_ _ | refine blk_drew ?_ | refine blk_alloc ?_ _)); refine blk_far ?_ NB346_347.out _; (with_reducible repeat (first | refine blk_drewN ?_ _ | refine blk_drew ?_ | refine blk_alloc ?_ _)); refine blk_far ?_ NB346_347.out _; (with_reducible repeat (first | refine blk_drewN ?_ _ | refine blk_drew ?_ | refine blk_alloc ?_ _)); refine blk_far ?_ NB346_347.out _; (with_reducible repeat (first | refine blk_drewN ?_ _ | refine blk_drew ?_ | refine blk_alloc ?_ _)); refine blk_put (cs := #[.bool t338, .int .i64 t339, .int .i64 t340, .string (⟨#[]⟩ : ByteArray)]) ?_ 3 _ rfl; (with_reducible repeat (first | refine blk_drewN ?_ _ | refine blk_drew ?_ | refine blk_alloc ?_ _)); refine blk_put (cs := #[.bool t338, .int .i64 t339, .int .i64 0, .string (⟨#[]⟩ : ByteArray)]) ?_ 2 _ rfl; (with_reducible repeat (first | refine blk_drewN ?_ _ | refine blk_drew ?_ | refine blk_alloc ?_ _)); refine blk_put (cs := #[.bool t338, .int .i64 0, .int .i64 0, .string (⟨#[]⟩ : ByteArray)]) ?_ 1 _ rfl; (with_reducible repeat (first | refine blk_drewN ?_ _ | refine blk_drew ?_ | refine blk_alloc ?_ _)); refine blk_put (cs := #[.bool false, .int .i64 0, .int .i64 0, .string (⟨#[]⟩ : ByteArray)]) ?_ 0 _ rfl; (with_reducible repeat (first | refine blk_drewN ?_ _ | refine blk_drew ?_ | refine blk_alloc ?_ _)); exact BK346.out⟩
        have n5_ : Aside0 (((((((((w126.setCell ⟨gb346, 0, none⟩ (.bool t338)).setCell ⟨gb346, 1, none⟩ (.int .i64 t339)).setCell ⟨gb346, 2, none⟩ (.int .i64 t340)).setCell ⟨gb346, 3, none⟩ (.string t341)).setCell ⟨gb347, 0, none⟩ (.bool t342)).setCell ⟨gb347, 1, none⟩ (.int .i64 t343)).setCell ⟨gb347, 2, none⟩ (.int .i64 t344)).setCell ⟨gb347, 3, none⟩ (.string t345)).heap[gb347]? = some (.cells #[.bool t342, .int .i64 t343, .int .i64 t344, .string t345] 25 (0, 0))) := ⟨by (with_reducible repeat (first | refine blk_drewN ?_ _ | refine blk_drew ?_ | refine blk_alloc ?_ _)); refine blk_put (cs := #[.bool t342, .int .i64 t343, .int .i64 t344, .string (⟨#[]⟩ : ByteArray)]) ?_ 3 _ rfl; (with_reducible repeat (first | refine blk_drewN ?_ _ | refine blk_drew ?_ | refine blk_alloc ?_ _)); refine blk_put (cs := #[.bool t342, .int .i64 t343, .int .i64 0, .string (⟨#[]⟩ : ByteArray)]) ?_ 2 _ rfl; (with_reducible repeat (first | refine blk_drewN ?_ _ | refine blk_drew ?_ | refine blk_alloc ?_ _)); refine blk_put (cs := #[.bool t342, .int .i64 0, .int .i64 0, .string (⟨#[]⟩ : ByteArray)]) ?_ 1 _ rfl; (with_reducible repeat (first | refine blk_drewN ?_ _ | refine blk_drew ?_ | refine blk_alloc ?_ _)); refine blk_put (cs := #[.bool false, .int .i64 0, .int .i64 0, .string (⟨#[]⟩ : ByteArray)]) ?_ 0 _ rfl; (with_reducible repeat (first | refine blk_drewN ?_ _ | refine blk_drew ?_ | refine blk_alloc ?_ _)); refine blk_far ?_ NB347_346.out _; (with_reducible repeat (first | refine blk_drewN ?_ _ | refine blk_drew ?_ | refine blk_alloc ?_ _)); refine blk_far ?_ NB347_346.out _; (with_reducible repeat (first | refine blk_drewN ?_ _ | refine blk_drew ?_ | refine blk_alloc ?_ _)); refine blk_far ?_ NB347_346.out _; (with_reducible repeat (first | refine blk_drewN ?_ _ | refine blk_drew ?_ | refine blk_alloc ?_ _)); refine blk_far ?_ NB347_346.out _; (with_reducible repeat (first | refine blk_drewN ?_ _ | refine blk_drew ?_ | refine blk_alloc ?_ _)); exact BK347.out⟩
        have n6_ : Aside0 (Below w.heap.size w ((((((((w126.setCell ⟨gb346, 0, none⟩ (.bool t338)).setCell ⟨gb346, 1, none⟩ (.int .i64 t339)).setCell ⟨gb346, 2, none⟩ (.int .i64 t340)).setCell ⟨gb346, 3, none⟩ (.string t341)).setCell ⟨gb347, 0, none⟩ (.bool t342)).setCell ⟨gb347, 1, none⟩ (.int .i64 t343)).setCell ⟨gb347, 2, none⟩ (.int .i64 t344)).setCell ⟨gb347, 3, none⟩ (.string t345))) := ⟨by repeat ((with_reducible first | exact HB.out | refine below_set ?_ GE346.out | refine below_set ?_ GE347.out))⟩
        (try clear BK316)
        (try clear BK317)
        (try clear BK327)
        (try clear BK328)
        (try clear BK346)
        (try clear BK347)
        (try clear HB)
        generalize ((((((((w126.setCell ⟨gb346, 0, none⟩ (.bool t338)).setCell ⟨gb346, 1, none⟩ (.int .i64 t339)).setCell ⟨gb346, 2, none⟩ (.int .i64 t340)).setCell ⟨gb346, 3, none⟩ (.string t341)).setCell ⟨gb347, 0, none⟩ (.bool t342)).setCell ⟨gb347, 1, none⟩ (.int .i64 t343)).setCell ⟨gb347, 2, none⟩ (.int .i64 t344)).setCell ⟨gb347, 3, none⟩ (.string t345)) = w167 at n0_ n1_ n2_ n3_ n4_ n5_ n6_ ⊢
        have BK316 := n0_
        have BK317 := n1_
        have BK327 := n2_
        have BK328 := n3_
        have BK346 := n4_
        have BK347 := n5_
        have HB := n6_
        clear n0_ n1_ n2_ n3_ n4_ n5_ n6_
        replace BK316 := Aside0.mk (blk_drew BK316.out)
        replace BK317 := Aside0.mk (blk_drew BK317.out)
        replace BK327 := Aside0.mk (blk_drew BK327.out)
        replace BK328 := Aside0.mk (blk_drew BK328.out)
        replace BK346 := Aside0.mk (blk_drew BK346.out)
        replace BK347 := Aside0.mk (blk_drew BK347.out)
        replace HB := Aside0.mk (below_drew1 HB.out)
        refine start_ (n := 32) (S := fun w' => w'.cell? ⟨gb347, 0, none⟩ = some (.bool t342) ∧ w'.cell? ⟨gb347, 1, none⟩ = some (.int .i64 t343) ∧ w'.cell? ⟨gb347, 2, none⟩ = some (.int .i64 t344) ∧ w'.cell? ⟨gb347, 3, none⟩ = some (.string t345) ∧ w'.cell? ⟨gb346, 0, none⟩ = some (.bool t338) ∧ w'.cell? ⟨gb346, 1, none⟩ = some (.int .i64 t339) ∧ w'.cell? ⟨gb346, 2, none⟩ = some (.int .i64 t340) ∧ w'.cell? ⟨gb346, 3, none⟩ = some (.string t341) ∧ w'.cell? ⟨gb316, 0, none⟩ = some (.bool t308) ∧ w'.cell? ⟨gb316, 1, none⟩ = some (.int .i64 t309) ∧ w'.cell? ⟨gb316, 2, none⟩ = some (.int .i64 t310) ∧ w'.cell? ⟨gb316, 3, none⟩ = some (.string t311) ∧ w'.cell? ⟨gb317, 0, none⟩ = some (.bool t312) ∧ w'.cell? ⟨gb317, 1, none⟩ = some (.int .i64 t313) ∧ w'.cell? ⟨gb317, 2, none⟩ = some (.int .i64 t314) ∧ w'.cell? ⟨gb317, 3, none⟩ = some (.string t315)) (ds := []) #[false, false, false, false, false, false, false, false, false, false, false, false, false, false, false, false, false, false, false, false, false, false, false, false, false, false, false, false, false, false, false, false] (by kernel_rfl) rfl rfl ⟨b3_ BK347.out 0 rfl, b3_ BK347.out 1 rfl, b3_ BK347.out 2 rfl, b3_ BK347.out 3 rfl, b3_ BK346.out 0 rfl, b3_ BK346.out 1 rfl, b3_ BK346.out 2 rfl, b3_ BK346.out 3 rfl, b3_ BK316.out 0 rfl, b3_ BK316.out 1 rfl, b3_ BK316.out 2 rfl, b3_ BK316.out 3 rfl, b3_ BK317.out 0 rfl, b3_ BK317.out 1 rfl, b3_ BK317.out 2 rfl, b3_ BK317.out 3 rfl⟩ (fun hHeld => ?_); refine with_tabW laws_FnAhead.tab12 laws_FnAhead.bits12 (fun HT_ HW_ => ?_)
        generalize w167.drew = w168 at BK316 BK317 BK327 BK328 BK346 BK347 HB hHeld ⊢
        refine take_ (i := 0) (N := some 80) (v := ?_) (a' := ?_) #[true, false, false, false, false, false, false, false, false, false, false, false, false, false, false, false, false, false, false, false, false, false, false, false, false, false, false, false, false, false, false, false] rfl rfl (take_ofW HT_.out HW_.out (by kernel_rfl)) (fun _ _ _ h => h) (Or.inl ⟨by rfl, ?_⟩) hHeld ?_ ?_
        rotate_left
        ·
         rintro w' ⟨s0, s1, s2, s3, s4, s5, s6, s7, s8, s9, s10, s11, s12, s13, s14, s15⟩
         go_simp
         with_reducible rfl
        rotate_left
        ·
         simp only [Act.put, List.setIfInBounds_toArray, List.set_cons_zero, List.set_cons_succ, i64_w, i32_w]
         rfl
        refine take_ (i := 1) (N := some 81) (v := ?_) (a' := ?_) #[true, true, false, false, false, false, false, false, false, false, false, false, false, false, false, false, false, false, false, false, false, false, false, false, false, false, false, false, false, false, false, false] rfl rfl (take_ofW HT_.out HW_.out (by kernel_rfl)) (fun _ _ _ h => h) (Or.inl ⟨by rfl, ?_⟩) hHeld ?_ ?_
        rotate_left
        ·
         rintro w' ⟨s0, s1, s2, s3, s4, s5, s6, s7, s8, s9, s10, s11, s12, s13, s14, s15⟩
         go_simp
         with_reducible rfl
        rotate_left
        ·
         simp only [Act.put, List.setIfInBounds_toArray, List.set_cons_zero, List.set_cons_succ, i64_w, i32_w]
         rfl
        refine one_ (i := 2) (N := some 82) #[true, true, true, false, false, false, false, false, false, false, false, false, false, false, false, false, false, false, false, false, false, false, false, false, false, false, false, false, false, false, false, false] rfl rfl (one_of HT_.out (by kernel_rfl)) (by decide) (fun K hK => ?_)
        refine goes_ Try.func7 (by kernel_rfl) rfl #[.agg #[.bool t342, .int .i64 t343, .int .i64 t344, .string t345], .agg #[.bool t338, .int .i64 t339, .int .i64 t340, .string t341]] (by rfl) rfl rfl (by (try simp only [List.map_toArray, List.map_cons, List.map_nil]); rfl) ?_
        with_reducible refine (impl_RecAhead.calls kj65 t342 t343 t344 t345 t338 t339 t340 t341 false _ A138.out).mono ?_
        rintro e w169 ⟨rfl, hb⟩
        refine ⟨_, rfl, ?_⟩
        replace BK316 := Aside0.mk (blk_below BK316.out hb)
        replace BK317 := Aside0.mk (blk_below BK317.out hb)
        replace BK327 := Aside0.mk (blk_below BK327.out hb)
        replace BK328 := Aside0.mk (blk_below BK328.out hb)
        replace BK346 := Aside0.mk (blk_below BK346.out hb)
        replace BK347 := Aside0.mk (blk_below BK347.out hb)
        replace HB := Aside0.mk (below_step HB.out hb)
        (try clear hb)
        (try clear hb2)
        (try clear hk)
        (try clear hi)
        refine hK.out _ _ ⟨b3_ BK347.out 0 rfl, b3_ BK347.out 1 rfl, b3_ BK347.out 2 rfl, b3_ BK347.out 3 rfl, b3_ BK346.out 0 rfl, b3_ BK346.out 1 rfl, b3_ BK346.out 2 rfl, b3_ BK346.out 3 rfl, b3_ BK316.out 0 rfl, b3_ BK316.out 1 rfl, b3_ BK316.out 2 rfl, b3_ BK316.out 3 rfl, b3_ BK317.out 0 rfl, b3_ BK317.out 1 rfl, b3_ BK317.out 2 rfl, b3_ BK317.out 3 rfl⟩ (fun hHeld => ?_)
        clear hK K
        refine norm_ (a' := ?_) ?_ ?_
        rotate_left
        ·
         show Act.put _ (some 82) _ = _
         simp only [Act.put, List.setIfInBounds_toArray, List.set_cons_zero, List.set_cons_succ, i64_w, i32_w]
         rfl
        refine pure_ (i := 3) (N := some 83) (v := ?_) (a' := ?_) #[true, true, true, true, false, false, false, false, false, false, false, false, false, false, false, false, false, false, false, false, false, false, false, false, false, false, false, false, false, false, false, false] rfl rfl (any_of HT_.out (by kernel_rfl)) (fun _ _ _ h => h) (Or.inl ⟨by rfl, ?_⟩) ?_ ?_
        rotate_left
        ·
         intro w'
         go_simp
         with_reducible rfl
        rotate_left
        ·
         simp only [Act.put, List.setIfInBounds_toArray, List.set_cons_zero, List.set_cons_succ, i64_w, i32_w]
         rfl
        refine take_ (i := 4) (N := some 84) (v := ?_) (a' := ?_) #[true, true, true, true, true, false, false, false, false, false, false, false, false, false, false, false, false, false, false, false, false, false, false, false, false, false, false, false, false, false, false, false] rfl rfl (take_ofW HT_.out HW_.out (by kernel_rfl)) (fun _ _ _ h => h) (Or.inl ⟨by rfl, ?_⟩) hHeld ?_ ?_
        rotate_left
        ·
         rintro w' ⟨s0, s1, s2, s3, s4, s5, s6, s7, s8, s9, s10, s11, s12, s13, s14, s15⟩
         go_simp
         with_reducible rfl
        rotate_left
        ·
         simp only [Act.put, List.setIfInBounds_toArray, List.set_cons_zero, List.set_cons_succ, i64_w, i32_w]
         rfl
        refine take_ (i := 5) (N := some 85) (v := ?_) (a' := ?_) #[true, true, true, true, true, true, false, false, false, false, false, false, false, false, false, false, false, false, false, false, false, false, false, false, false, false, false, false, false, false, false, false] rfl rfl (take_ofW HT_.out HW_.out (by kernel_rfl)) (fun _ _ _ h => h) (Or.inl ⟨by rfl, ?_⟩) hHeld ?_ ?_
        rotate_left
        ·
         rintro w' ⟨s0, s1, s2, s3, s4, s5, s6, s7, s8, s9, s10, s11, s12, s13, s14, s15⟩
         go_simp
         with_reducible rfl
        rotate_left
        ·
         simp only [Act.put, List.setIfInBounds_toArray, List.set_cons_zero, List.set_cons_succ, i64_w, i32_w]
         rfl
        refine pure_ (i := 6) (N := some 86) (v := ?_) (a' := ?_) #[true, true, true, true, true, true, true, false, false, false, false, false, false, false, false, false, false, false, false, false, false, false, false, false, false, false, false, false, false, false, false, false] rfl rfl (any_of HT_.out (by kernel_rfl)) (fun _ _ _ h => h) (Or.inl ⟨by rfl, ?_⟩) ?_ ?_
        rotate_left
        ·
         intro w'
         go_simp
         with_reducible rfl
        rotate_left
        ·
         simp only [Act.put, List.setIfInBounds_toArray, List.set_cons_zero, List.set_cons_succ, i64_w, i32_w]
         rfl
        refine pure_ (i := 7) (N := some 87) (v := ?_) (a' := ?_) #[true, true, true, true, true, true, true, true, false, false, false, false, false, false, false, false, false, false, false, false, false, false, false, false, false, false, false, false, false, false, false, false] rfl rfl (any_of HT_.out (by kernel_rfl)) (fun _ _ _ h => h) (Or.inl ⟨by rfl, ?_⟩) ?_ ?_
        rotate_left
        ·
         intro w'
         go_simp
         with_reducible rfl
        rotate_left
        ·
         simp only [Act.put, List.setIfInBounds_toArray, List.set_cons_zero, List.set_cons_succ, i64_w, i32_w]
         rfl
        refine pure_ (i := 8) (N := some 88) (v := undef) (a' := ?_) #[true, true, true, true, true, true, true, true, true, false, false, false, false, false, false, false, false, false, false, false, false, false, false, false, false, false, false, false, false, false, false, false] rfl rfl (any_of HT_.out (by kernel_rfl)) (fun _ _ _ h => h) (Or.inr ⟨by rfl, rfl⟩) ?_ ?_
        rotate_left
        ·
         simp only [Act.put, List.setIfInBounds_toArray, List.set_cons_zero, List.set_cons_succ, i64_w, i32_w]
         rfl
        refine pure_ (i := 9) (N := some 89) (v := undef) (a' := ?_) #[true, true, true, true, true, true, true, true, true, true, false, false, false, false, false, false, false, false, false, false, false, false, false, false, false, false, false, false, false, false, false, false] rfl rfl (any_of HT_.out (by kernel_rfl)) (fun _ _ _ h => h) (Or.inr ⟨by rfl, rfl⟩) ?_ ?_
        rotate_left
        ·
         simp only [Act.put, List.setIfInBounds_toArray, List.set_cons_zero, List.set_cons_succ, i64_w, i32_w]
         rfl
        refine pure_ (i := 10) (N := some 90) (v := undef) (a' := ?_) #[true, true, true, true, true, true, true, true, true, true, true, false, false, false, false, false, false, false, false, false, false, false, false, false, false, false, false, false, false, false, false, false] rfl rfl (any_of HT_.out (by kernel_rfl)) (fun _ _ _ h => h) (Or.inr ⟨by rfl, rfl⟩) ?_ ?_
        rotate_left
        ·
         simp only [Act.put, List.setIfInBounds_toArray, List.set_cons_zero, List.set_cons_succ, i64_w, i32_w]
         rfl
        refine pure_ (i := 11) (N := some 91) (v := ?_) (a' := ?_) #[true, true, true, true, true, true, true, true, true, true, true, true, false, false, false, false, false, false, false, false, false, false, false, false, false, false, false, false, false, false, false, false] rfl rfl (any_of HT_.out (by kernel_rfl)) (fun _ _ _ h => h) (Or.inl ⟨by rfl, ?_⟩) ?_ ?_
        rotate_left
        ·
         intro w'
         go_simp
         with_reducible rfl
        rotate_left
        ·
         simp only [Act.put, List.setIfInBounds_toArray, List.set_cons_zero, List.set_cons_succ, i64_w, i32_w]
         rfl
        refine pure_ (i := 12) (N := some 92) (v := ?_) (a' := ?_) #[true, true, true, true, true, true, true, true, true, true, true, true, true, false, false, false, false, false, false, false, false, false, false, false, false, false, false, false, false, false, false, false] rfl rfl (any_of HT_.out (by kernel_rfl)) (fun _ _ _ h => h) (Or.inl ⟨by rfl, ?_⟩) ?_ ?_
        rotate_left
        ·
         intro w'
         go_simp
         with_reducible rfl
        rotate_left
        ·
         simp only [Act.put, List.setIfInBounds_toArray, List.set_cons_zero, List.set_cons_succ, i64_w, i32_w]
         rfl
        refine pure_ (i := 13) (N := some 93) (v := ?_) (a' := ?_) #[true, true, true, true, true, true, true, true, true, true, true, true, true, true, false, false, false, false, false, false, false, false, false, false, false, false, false, false, false, false, false, false] rfl rfl (any_of HT_.out (by kernel_rfl)) (fun _ _ _ h => h) (Or.inl ⟨by rfl, ?_⟩) ?_ ?_
        rotate_left
        ·
         intro w'
         go_simp
         with_reducible rfl
        rotate_left
        ·
         simp only [Act.put, List.setIfInBounds_toArray, List.set_cons_zero, List.set_cons_succ, i64_w, i32_w]
         rfl
        refine take_ (i := 14) (N := some 94) (v := ?_) (a' := ?_) #[true, true, true, true, true, true, true, true, true, true, true, true, true, true, true, false, false, false, false, false, false, false, false, false, false, false, false, false, false, false, false, false] rfl rfl (take_ofW HT_.out HW_.out (by kernel_rfl)) (fun _ _ _ h => h) (Or.inl ⟨by rfl, ?_⟩) hHeld ?_ ?_
        rotate_left
        ·
         rintro w' ⟨s0, s1, s2, s3, s4, s5, s6, s7, s8, s9, s10, s11, s12, s13, s14, s15⟩
         go_simp
         with_reducible rfl
        rotate_left
        ·
         simp only [Act.put, List.setIfInBounds_toArray, List.set_cons_zero, List.set_cons_succ, i64_w, i32_w]
         rfl
        refine take_ (i := 15) (N := some 95) (v := ?_) (a' := ?_) #[true, true, true, true, true, true, true, true, true, true, true, true, true, true, true, true, false, false, false, false, false, false, false, false, false, false, false, false, false, false, false, false] rfl rfl (take_ofW HT_.out HW_.out (by kernel_rfl)) (fun _ _ _ h => h) (Or.inl ⟨by rfl, ?_⟩) hHeld ?_ ?_
        rotate_left
        ·
         rintro w' ⟨s0, s1, s2, s3, s4, s5, s6, s7, s8, s9, s10, s11, s12, s13, s14, s15⟩
         go_simp
         with_reducible rfl
        rotate_left
        ·
         simp only [Act.put, List.setIfInBounds_toArray, List.set_cons_zero, List.set_cons_succ, i64_w, i32_w]
         rfl
        refine pure_ (i := 16) (N := some 96) (v := ?_) (a' := ?_) #[true, true, true, true, true, true, true, true, true, true, true, true, true, true, true, true, true, false, false, false, false, false, false, false, false, false, false, false, false, false, false, false] rfl rfl (any_of HT_.out (by kernel_rfl)) (fun _ _ _ h => h) (Or.inl ⟨by rfl, ?_⟩) ?_ ?_
        rotate_left
        ·
         intro w'
         go_simp
         with_reducible rfl
        rotate_left
        ·
         simp only [Act.put, List.setIfInBounds_toArray, List.set_cons_zero, List.set_cons_succ, i64_w, i32_w]
         rfl
        refine pure_ (i := 17) (N := some 97) (v := ?_) (a' := ?_) #[true, true, true, true, true, true, true, true, true, true, true, true, true, true, true, true, true, true, false, false, false, false, false, false, false, false, false, false, false, false, false, false] rfl rfl (any_of HT_.out (by kernel_rfl)) (fun _ _ _ h => h) (Or.inl ⟨by rfl, ?_⟩) ?_ ?_
        rotate_left
        ·
         intro w'
         go_simp
         with_reducible rfl
        rotate_left
        ·
         simp only [Act.put, List.setIfInBounds_toArray, List.set_cons_zero, List.set_cons_succ, i64_w, i32_w]
         rfl
        refine pure_ (i := 18) (N := some 98) (v := undef) (a' := ?_) #[true, true, true, true, true, true, true, true, true, true, true, true, true, true, true, true, true, true, true, false, false, false, false, false, false, false, false, false, false, false, false, false] rfl rfl (any_of HT_.out (by kernel_rfl)) (fun _ _ _ h => h) (Or.inr ⟨by rfl, rfl⟩) ?_ ?_
        rotate_left
        ·
         simp only [Act.put, List.setIfInBounds_toArray, List.set_cons_zero, List.set_cons_succ, i64_w, i32_w]
         rfl
        refine pure_ (i := 19) (N := some 99) (v := undef) (a' := ?_) #[true, true, true, true, true, true, true, true, true, true, true, true, true, true, true, true, true, true, true, true, false, false, false, false, false, false, false, false, false, false, false, false] rfl rfl (any_of HT_.out (by kernel_rfl)) (fun _ _ _ h => h) (Or.inr ⟨by rfl, rfl⟩) ?_ ?_
        rotate_left
        ·
         simp only [Act.put, List.setIfInBounds_toArray, List.set_cons_zero, List.set_cons_succ, i64_w, i32_w]
         rfl
        refine pure_ (i := 20) (N := some 100) (v := undef) (a' := ?_) #[true, true, true, true, true, true, true, true, true, true, true, true, true, true, true, true, true, true, true, true, true, false, false, false, false, false, false, false, false, false, false, false] rfl rfl (any_of HT_.out (by kernel_rfl)) (fun _ _ _ h => h) (Or.inr ⟨by rfl, rfl⟩) ?_ ?_
        rotate_left
        ·
         simp only [Act.put, List.setIfInBounds_toArray, List.set_cons_zero, List.set_cons_succ, i64_w, i32_w]
         rfl
        refine pure_ (i := 21) (N := some 101) (v := ?_) (a' := ?_) #[true, true, true, true, true, true, true, true, true, true, true, true, true, true, true, true, true, true, true, true, true, true, false, false, false, false, false, false, false, false, false, false] rfl rfl (any_of HT_.out (by kernel_rfl)) (fun _ _ _ h => h) (Or.inl ⟨by rfl, ?_⟩) ?_ ?_
        rotate_left
        ·
         intro w'
         go_simp
         with_reducible rfl
        rotate_left
        ·
         simp only [Act.put, List.setIfInBounds_toArray, List.set_cons_zero, List.set_cons_succ, i64_w, i32_w]
         rfl
        refine pure_ (i := 22) (N := some 102) (v := ?_) (a' := ?_) #[true, true, true, true, true, true, true, true, true, true, true, true, true, true, true, true, true, true, true, true, true, true, true, false, false, false, false, false, false, false, false, false] rfl rfl (any_of HT_.out (by kernel_rfl)) (fun _ _ _ h => h) (Or.inl ⟨by rfl, ?_⟩) ?_ ?_
        rotate_left
        ·
         intro w'
         go_simp
         with_reducible rfl
        rotate_left
        ·
         simp only [Act.put, List.setIfInBounds_toArray, List.set_cons_zero, List.set_cons_succ, i64_w, i32_w]
         rfl
        refine pure_ (i := 23) (N := some 103) (v := ?_) (a' := ?_) #[true, true, true, true, true, true, true, true, true, true, true, true, true, true, true, true, true, true, true, true, true, true, true, true, false, false, false, false, false, false, false, false] rfl rfl (any_of HT_.out (by kernel_rfl)) (fun _ _ _ h => h) (Or.inl ⟨by rfl, ?_⟩) ?_ ?_
        rotate_left
        ·
         intro w'
         go_simp
         with_reducible rfl
        rotate_left
        ·
         simp only [Act.put, List.setIfInBounds_toArray, List.set_cons_zero, List.set_cons_succ, i64_w, i32_w]
         rfl
        refine take_ (i := 24) (N := some 104) (v := ?_) (a' := ?_) #[true, true, true, true, true, true, true, true, true, true, true, true, true, true, true, true, true, true, true, true, true, true, true, true, true, false, false, false, false, false, false, false] rfl rfl (take_ofW HT_.out HW_.out (by kernel_rfl)) (fun _ _ _ h => h) (Or.inl ⟨by rfl, ?_⟩) hHeld ?_ ?_
        rotate_left
        ·
         rintro w' ⟨s0, s1, s2, s3, s4, s5, s6, s7, s8, s9, s10, s11, s12, s13, s14, s15⟩
         go_simp
         with_reducible rfl
        rotate_left
        ·
         simp only [Act.put, List.setIfInBounds_toArray, List.set_cons_zero, List.set_cons_succ, i64_w, i32_w]
         rfl
        refine take_ (i := 25) (N := some 105) (v := ?_) (a' := ?_) #[true, true, true, true, true, true, true, true, true, true, true, true, true, true, true, true, true, true, true, true, true, true, true, true, true, true, false, false, false, false, false, false] rfl rfl (take_ofW HT_.out HW_.out (by kernel_rfl)) (fun _ _ _ h => h) (Or.inl ⟨by rfl, ?_⟩) hHeld ?_ ?_
        rotate_left
        ·
         rintro w' ⟨s0, s1, s2, s3, s4, s5, s6, s7, s8, s9, s10, s11, s12, s13, s14, s15⟩
         go_simp
         with_reducible rfl
        rotate_left
        ·
         simp only [Act.put, List.setIfInBounds_toArray, List.set_cons_zero, List.set_cons_succ, i64_w, i32_w]
         rfl
        refine pure_ (i := 26) (N := some 106) (v := ?_) (a' := ?_) #[true, true, true, true, true, true, true, true, true, true, true, true, true, true, true, true, true, true, true, true, true, true, true, true, true, true, true, false, false, false, false, false] rfl rfl (any_of HT_.out (by kernel_rfl)) (fun _ _ _ h => h) (Or.inl ⟨by rfl, ?_⟩) ?_ ?_
        rotate_left
        ·
         intro w'
         go_simp
         with_reducible rfl
        rotate_left
        ·
         simp only [Act.put, List.setIfInBounds_toArray, List.set_cons_zero, List.set_cons_succ, i64_w, i32_w]
         rfl
        refine take_ (i := 27) (N := some 107) (v := ?_) (a' := ?_) #[true, true, true, true, true, true, true, true, true, true, true, true, true, true, true, true, true, true, true, true, true, true, true, true, true, true, true, true, false, false, false, false] rfl rfl (take_ofW HT_.out HW_.out (by kernel_rfl)) (fun _ _ _ h => h) (Or.inl ⟨by rfl, ?_⟩) hHeld ?_ ?_
        rotate_left
        ·
         rintro w' ⟨s0, s1, s2, s3, s4, s5, s6, s7, s8, s9, s10, s11, s12, s13, s14, s15⟩
         go_simp
         with_reducible rfl
        rotate_left
        ·
         simp only [Act.put, List.setIfInBounds_toArray, List.set_cons_zero, List.set_cons_succ, i64_w, i32_w]
         rfl
        refine take_ (i := 28) (N := some 108) (v := ?_) (a' := ?_) #[true, true, true, true, true, true, true, true, true, true, true, true, true, true, true, true, true, true, true, true, true, true, true, true, true, true, true, true, true, false, false, false] rfl rfl (take_ofW HT_.out HW_.out (by kernel_rfl)) (fun _ _ _ h => h) (Or.inl ⟨by rfl, ?_⟩) hHeld ?_ ?_
        rotate_left
        ·
         rintro w' ⟨s0, s1, s2, s3, s4, s5, s6, s7, s8, s9, s10, s11, s12, s13, s14, s15⟩
         go_simp
         with_reducible rfl
        rotate_left
        ·
         simp only [Act.put, List.setIfInBounds_toArray, List.set_cons_zero, List.set_cons_succ, i64_w, i32_w]
         rfl
        refine pure_ (i := 29) (N := some 109) (v := ?_) (a' := ?_) #[true, true, true, true, true, true, true, true, true, true, true, true, true, true, true, true, true, true, true, true, true, true, true, true, true, true, true, true, true, true, false, false] rfl rfl (any_of HT_.out (by kernel_rfl)) (fun _ _ _ h => h) (Or.inl ⟨by rfl, ?_⟩) ?_ ?_
        rotate_left
        ·
         intro w'
         go_simp
         with_reducible rfl
        rotate_left
        ·
         simp only [Act.put, List.setIfInBounds_toArray, List.set_cons_zero, List.set_cons_succ, i64_w, i32_w]
         rfl
        refine pure_ (i := 30) (N := some 110) (v := ?_) (a' := ?_) #[true, true, true, true, true, true, true, true, true, true, true, true, true, true, true, true, true, true, true, true, true, true, true, true, true, true, true, true, true, true, true, false] rfl rfl (any_of HT_.out (by kernel_rfl)) (fun _ _ _ h => h) (Or.inl ⟨by rfl, ?_⟩) ?_ ?_
        rotate_left
        ·
         intro w'
         go_simp
         with_reducible rfl
        rotate_left
        ·
         simp only [Act.put, List.setIfInBounds_toArray, List.set_cons_zero, List.set_cons_succ, i64_w, i32_w]
         rfl
        refine pure_ (i := 31) (N := some 111) (v := ?_) (a' := ?_) #[true, true, true, true, true, true, true, true, true, true, true, true, true, true, true, true, true, true, true, true, true, true, true, true, true, true, true, true, true, true, true, true] rfl rfl (any_of HT_.out (by kernel_rfl)) (fun _ _ _ h => h) (Or.inl ⟨by rfl, ?_⟩) ?_ ?_
        rotate_left
        ·
         intro w'
         go_simp
         with_reducible rfl
        rotate_left
        ·
         simp only [Act.put, List.setIfInBounds_toArray, List.set_cons_zero, List.set_cons_succ, i64_w, i32_w]
         rfl
        refine done_ (done_of HT_.out (by kernel_rfl)) ?_
        try go_wp2
        go_meet
        case rel => exact ⟨_, (((t338 == t342 && (t339 == t343 && (t340 == t344 && (t341.toList == t345.toList)))) != (t308 == t312 && (t309 == t313 && (t310 == t314 && (t311.toList == t315.toList)))))), (by rfl), H', ⟨by have := HJ8.out; have := HJ65.out; omega⟩, ⟨by (with_reducible repeat (first | refine blk_drewN ?_ _ | refine blk_drew ?_ | refine blk_alloc ?_ _)); exact BK316.out⟩, ⟨by (with_reducible repeat (first | refine blk_drewN ?_ _ | refine blk_drew ?_ | refine blk_alloc ?_ _)); exact BK317.out⟩, ⟨by (with_reducible repeat (first | refine blk_drewN ?_ _ | refine blk_drew ?_ | refine blk_alloc ?_ _)); exact BK327.out⟩, ⟨by (with_reducible repeat (first | refine blk_drewN ?_ _ | refine blk_drew ?_ | refine blk_alloc ?_ _)); exact BK328.out⟩, ⟨by (with_reducible repeat (first | refine blk_drewN ?_ _ | refine blk_drew ?_ | refine blk_alloc ?_ _)); exact BK346.out⟩, ⟨by (with_reducible repeat (first | refine blk_drewN ?_ _ | refine blk_drew ?_ | refine blk_alloc ?_ _)); exact BK347.out⟩, ⟨by repeat ((with_reducible exact HB.out))⟩⟩
       rw [if_pos c159] at H
       have c159b0 : (!(t342 == t308) || (!(t343 == t309) || (!(t344 == t310) || (!(t345.toList == t311.toList))))) = true := c159
       clear c159
       by_cases c160 : (!(t342 == t312) || (!(t343 == t313) || (!(t344 == t314) || (!(t345.toList == t315.toList))))) = true
       ·
        rw [if_pos c160] at H
        have c160b0 : (!(t342 == t312) || (!(t343 == t313) || (!(t344 == t314) || (!(t345.toList == t315.toList))))) = true := c160
        clear c160
        exact (laws_FnAhead.j2_no H HTRUE_.out).elim
       rw [if_neg c160] at H
       have c160b0 : (!(t342 == t312) || (!(t343 == t313) || (!(t344 == t314) || (!(t345.toList == t315.toList))))) = false := by simpa using c160
       clear c160
       have H' := Aside0.mk H
       clear H
       try go_wp2
       have n0_ : Aside0 (((((((((w126.setCell ⟨gb346, 0, none⟩ (.bool t338)).setCell ⟨gb346, 1, none⟩ (.int .i64 t339)).setCell ⟨gb346, 2, none⟩ (.int .i64 t340)).setCell ⟨gb346, 3, none⟩ (.string t341)).setCell ⟨gb347, 0, none⟩ (.bool t342)).setCell ⟨gb347, 1, none⟩ (.int .i64 t343)).setCell ⟨gb347, 2, none⟩ (.int .i64 t344)).setCell ⟨gb347, 3, none⟩ (.string t345)).heap[gb316]? = some (.cells #[.bool t308, .int .i64 t309, .int .i64 t310, .string t311] 25 (0, 0))) := ⟨by (with_reducible repeat (first | refine blk_drewN ?_ _ | refine blk_drew ?_ | refine blk_alloc ?_ _)); refine blk_far ?_ NB316_347.out _; (with_reducible repeat (first | refine blk_drewN ?_ _ | refine blk_drew ?_ | refine blk_alloc ?_ _)); refine blk_far ?_ NB316_347.out _; (with_reducible repeat (first | refine blk_drewN ?_ _ | refine blk_drew ?_ | refine blk_alloc ?_ _)); refine blk_far ?_ NB316_347.out _; (with_reducible repeat (first | refine blk_drewN ?_ _ | refine blk_drew ?_ | refine blk_alloc ?_ _)); refine blk_far ?_ NB316_347.out _; (with_reducible repeat (first | refine blk_drewN ?_ _ | refine blk_drew ?_ | refine blk_alloc ?_ _)); refine blk_far ?_ NB316_346.out _; (with_reducible repeat (first | refine blk_drewN ?_ _ | refine blk_drew ?_ | refine blk_alloc ?_ _)); refine blk_far ?_ NB316_346.out _; (with_reducible repeat (first | refine blk_drewN ?_ _ | refine blk_drew ?_ | refine blk_alloc ?_ _)); refine blk_far ?_ NB316_346.out _; (with_reducible repeat (first | refine blk_drewN ?_ _ | refine blk_drew ?_ | refine blk_alloc ?_ _)); refine blk_far ?_ NB316_346.out _; (with_reducible repeat (first | refine blk_drewN ?_ _ | refine blk_drew ?_ | refine blk_alloc ?_ _)); exact BK316.out⟩
       have n1_ : Aside0 (((((((((w126.setCell ⟨gb346, 0, none⟩ (.bool t338)).setCell ⟨gb346, 1, none⟩ (.int .i64 t339)).setCell ⟨gb346, 2, none⟩ (.int .i64 t340)).setCell ⟨gb346, 3, none⟩ (.string t341)).setCell ⟨gb347, 0, none⟩ (.bool t342)).setCell ⟨gb347, 1, none⟩ (.int .i64 t343)).setCell ⟨gb347, 2, none⟩ (.int .i64 t344)).setCell ⟨gb347, 3, none⟩ (.string t345)).heap[gb317]? = some (.cells #[.bool t312, .int .i64 t313, .int .i64 t314, .string t315] 25 (0, 0))) := ⟨by (with_reducible repeat (first | refine blk_drewN ?_ _ | refine blk_drew ?_ | refine blk_alloc ?_ _)); refine blk_far ?_ NB317_347.out _; (with_reducible repeat (first | refine blk_drewN ?_ _ | refine blk_drew ?_ | refine blk_alloc ?_ _)); refine blk_far ?_ NB317_347.out _; (with_reducible repeat (first | refine blk_drewN ?_ _ | refine blk_drew ?_ | refine blk_alloc ?_ _)); refine blk_far ?_ NB317_347.out _; (with_reducible repeat (first | refine blk_drewN ?_ _ | refine blk_drew ?_ | refine blk_alloc ?_ _)); refine blk_far ?_ NB317_347.out _; (with_reducible repeat (first | refine blk_drewN ?_ _ | refine blk_drew ?_ | refine blk_alloc ?_ _)); refine blk_far ?_ NB317_346.out _; (with_reducible repeat (first | refine blk_drewN ?_ _ | refine blk_drew ?_ | refine blk_alloc ?_ _)); refine blk_far ?_ NB317_346.out _; (with_reducible repeat (first | refine blk_drewN ?_ _ | refine blk_drew ?_ | refine blk_alloc ?_ _)); refine blk_far ?_ NB317_346.out _; (with_reducible repeat (first | refine blk_drewN ?_ _ | refine blk_drew ?_ | refine blk_alloc ?_ _)); refine blk_far ?_ NB317_346.out _; (with_reducible repeat (first | refine blk_drewN ?_ _ | refine blk_drew ?_ | refine blk_alloc ?_ _)); exact BK317.out⟩
       have n2_ : Aside0 (((((((((w126.setCell ⟨gb346, 0, none⟩ (.bool t338)).setCell ⟨gb346, 1, none⟩ (.int .i64 t339)).setCell ⟨gb346, 2, none⟩ (.int .i64 t340)).setCell ⟨gb346, 3, none⟩ (.string t341)).setCell ⟨gb347, 0, none⟩ (.bool t342)).setCell ⟨gb347, 1, none⟩ (.int .i64 t343)).setCell ⟨gb347, 2, none⟩ (.int .i64 t344)).setCell ⟨gb347, 3, none⟩ (.string t345)).heap[gb327]? = some (.cells #[.bool t319, .int .i64 t320, .int .i64 t321, .string t322] 25 (0, 0))) := ⟨by (with_reducible repeat (first | refine blk_drewN ?_ _ | refine blk_drew ?_ | refine blk_alloc ?_ _)); refine blk_far ?_ NB327_347.out _; (with_reducible repeat (first | refine blk_drewN ?_ _ | refine blk_drew ?_ | refine blk_alloc ?_ _)); refine blk_far ?_ NB327_347.out _; (with_reducible repeat (first | refine blk_drewN ?_ _ | refine blk_drew ?_ | refine blk_alloc ?_ _)); refine blk_far ?_ NB327_347.out _; (with_reducible repeat (first | refine blk_drewN ?_ _ | refine blk_drew ?_ | refine blk_alloc ?_ _)); refine blk_far ?_ NB327_347.out _; (with_reducible repeat (first | refine blk_drewN ?_ _ | refine blk_drew ?_ | refine blk_alloc ?_ _)); refine blk_far ?_ NB327_346.out _; (with_reducible repeat (first | refine blk_drewN ?_ _ | refine blk_drew ?_ | refine blk_alloc ?_ _)); refine blk_far ?_ NB327_346.out _; (with_reducible repeat (first | refine blk_drewN ?_ _ | refine blk_drew ?_ | refine blk_alloc ?_ _)); refine blk_far ?_ NB327_346.out _; (with_reducible repeat (first | refine blk_drewN ?_ _ | refine blk_drew ?_ | refine blk_alloc ?_ _)); refine blk_far ?_ NB327_346.out _; (with_reducible repeat (first | refine blk_drewN ?_ _ | refine blk_drew ?_ | refine blk_alloc ?_ _)); exact BK327.out⟩
       have n3_ : Aside0 (((((((((w126.setCell ⟨gb346, 0, none⟩ (.bool t338)).setCell ⟨gb346, 1, none⟩ (.int .i64 t339)).setCell ⟨gb346, 2, none⟩ (.int .i64 t340)).setCell ⟨gb346, 3, none⟩ (.string t341)).setCell ⟨gb347, 0, none⟩ (.bool t342)).setCell ⟨gb347, 1, none⟩ (.int .i64 t343)).setCell ⟨gb347, 2, none⟩ (.int .i64 t344)).setCell ⟨gb347, 3, none⟩ (.string t345)).heap[gb328]? = some (.cells #[.bool t323, .int .i64 t324, .int .i64 t325, .string t326] 25 (0, 0))) := ⟨by (with_reducible repeat (first | refine blk_drewN ?_ _ | refine blk_drew ?_ | refine blk_alloc ?_ _)); refine blk_far ?_ NB328_347.out _; (with_reducible repeat (first | refine blk_drewN ?_ _ | refine blk_drew ?_ | refine blk_alloc ?_ _)); refine blk_far ?_ NB328_347.out _; (with_reducible repeat (first | refine blk_drewN ?_ _ | refine blk_drew ?_ | refine blk_alloc ?_ _)); refine blk_far ?_ NB328_347.out _; (with_reducible repeat (first | refine blk_drewN ?_ _ | refine blk_drew ?_ | refine blk_alloc ?_ _)); refine blk_far ?_ NB328_347.out _; (with_reducible repeat (first | refine blk_drewN ?_ _ | refine blk_drew ?_ | refine blk_alloc ?_ _)); refine blk_far ?_ NB328_346.out _; (with_reducible repeat (first | refine blk_drewN ?_ _ | refine blk_drew ?_ | refine blk_alloc ?_ _)); refine blk_far ?_ NB328_346.out _; (with_reducible repeat (first | refine blk_drewN ?_ _ | refine blk_drew ?_ | refine blk_alloc ?_ _)); refine blk_far ?_ NB328_346.out _; (with_reducible repeat (first | refine blk_drewN ?_ _ | refine blk_drew ?_ | refine blk_alloc ?_ _)); refine blk_far ?_ NB328_346.out _; (with_reducible repeat (first | refine blk_drewN ?_ _ | refine blk_drew ?_ | refine blk_alloc ?_ _)); exact BK328.out⟩
       have n4_ : Aside0 (((((((((w126.setCell ⟨gb346, 0, none⟩ (.bool t338)).setCell ⟨gb346, 1, none⟩ (.int .i64 t339)).setCell ⟨gb346, 2, none⟩ (.int .i64 t340)).setCell ⟨gb346, 3, none⟩ (.string t341)).setCell ⟨gb347, 0, none⟩ (.bool t342)).setCell ⟨gb347, 1, none⟩ (.int .i64 t343)).setCell ⟨gb347, 2, none⟩ (.int .i64 t344)).setCell ⟨gb347, 3, none⟩ (.string t345)).heap[gb346]? = some (.cells #[.bool t338, .int .i64 t339, .int .i64 t340, .string t341] 25 (0, 0))) := ⟨by (with_reducible repeat (first | refine blk_drewN ?_ _ | refine blk_drew ?_ | refine blk_alloc ?_ _)); refine blk_far ?_ NB346_347.out _; (with_reducible repeat (first | refine blk_drewN ?_ _ | refine blk_drew ?_ | refine blk_alloc ?_ _)); refine blk_far ?_ NB346_347.out _; (with_reducible repeat (first | refine blk_drewN ?_ _ | refine blk_drew ?_ | refine blk_alloc ?_ _)); refine blk_far ?_ NB346_347.out _; (with_reducible repeat (first | refine blk_drewN ?_ _ | refine blk_drew ?_ | refine blk_alloc ?_ _)); refine blk_far ?_ NB346_347.out _; (with_reducible repeat (first | refine blk_drewN ?_ _ | refine blk_drew ?_ | refine blk_alloc ?_ _)); refine blk_put (cs := #[.bool t338, .int .i64 t339, .int .i64 t340, .string (⟨#[]⟩ : ByteArray)]) ?_ 3 _ rfl; (with_reducible repeat (first | refine blk_drewN ?_ _ | refine blk_drew ?_ | refine blk_alloc ?_ _)); refine blk_put (cs := #[.bool t338, .int .i64 t339, .int .i64 0, .string (⟨#[]⟩ : ByteArray)]) ?_ 2 _ rfl; (with_reducible repeat (first | refine blk_drewN ?_ _ | refine blk_drew ?_ | refine blk_alloc ?_ _)); refine blk_put (cs := #[.bool t338, .int .i64 0, .int .i64 0, .string (⟨#[]⟩ : ByteArray)]) ?_ 1 _ rfl; (with_reducible repeat (first | refine blk_drewN ?_ _ | refine blk_drew ?_ | refine blk_alloc ?_ _)); refine blk_put (cs := #[.bool false, .int .i64 0, .int .i64 0, .string (⟨#[]⟩ : ByteArray)]) ?_ 0 _ rfl; (with_reducible repeat (first | refine blk_drewN ?_ _ | refine blk_drew ?_ | refine blk_alloc ?_ _)); exact BK346.out⟩
       have n5_ : Aside0 (((((((((w126.setCell ⟨gb346, 0, none⟩ (.bool t338)).setCell ⟨gb346, 1, none⟩ (.int .i64 t339)).setCell ⟨gb346, 2, none⟩ (.int .i64 t340)).setCell ⟨gb346, 3, none⟩ (.string t341)).setCell ⟨gb347, 0, none⟩ (.bool t342)).setCell ⟨gb347, 1, none⟩ (.int .i64 t343)).setCell ⟨gb347, 2, none⟩ (.int .i64 t344)).setCell ⟨gb347, 3, none⟩ (.string t345)).heap[gb347]? = some (.cells #[.bool t342, .int .i64 t343, .int .i64 t344, .string t345] 25 (0, 0))) := ⟨by (with_reducible repeat (first | refine blk_drewN ?_ _ | refine blk_drew ?_ | refine blk_alloc ?_ _)); refine blk_put (cs := #[.bool t342, .int .i64 t343, .int .i64 t344, .string (⟨#[]⟩ : ByteArray)]) ?_ 3 _ rfl; (with_reducible repeat (first | refine blk_drewN ?_ _ | refine blk_drew ?_ | refine blk_alloc ?_ _)); refine blk_put (cs := #[.bool t342, .int .i64 t343, .int .i64 0, .string (⟨#[]⟩ : ByteArray)]) ?_ 2 _ rfl; (with_reducible repeat (first | refine blk_drewN ?_ _ | refine blk_drew ?_ | refine blk_alloc ?_ _)); refine blk_put (cs := #[.bool t342, .int .i64 0, .int .i64 0, .string (⟨#[]⟩ : ByteArray)]) ?_ 1 _ rfl; (with_reducible repeat (first | refine blk_drewN ?_ _ | refine blk_drew ?_ | refine blk_alloc ?_ _)); refine blk_put (cs := #[.bool false, .int .i64 0, .int .i64 0, .string (⟨#[]⟩ : ByteArray)]) ?_ 0 _ rfl; (with_reducible repeat (first | refine blk_drewN ?_ _ | refine blk_drew ?_ | refine blk_alloc ?_ _)); refine blk_far ?_ NB347_346.out _; (with_reducible repeat (first | refine blk_drewN ?_ _ | refine blk_drew ?_ | refine blk_alloc ?_ _)); refine blk_far ?_ NB347_346.out _; (with_reducible repeat (first | refine blk_drewN ?_ _ | refine blk_drew ?_ | refine blk_alloc ?_ _)); refine blk_far ?_ NB347_346.out _; (with_reducible repeat (first | refine blk_drewN ?_ _ | refine blk_drew ?_ | refine blk_alloc ?_ _)); refine blk_far ?_ NB347_346.out _; (with_reducible repeat (first | refine blk_drewN ?_ _ | refine blk_drew ?_ | refine blk_alloc ?_ _)); exact BK347.out⟩
       have n6_ : Aside0 (Below w.heap.size w ((((((((w126.setCell ⟨gb346, 0, none⟩ (.bool t338)).setCell ⟨gb346, 1, none⟩ (.int .i64 t339)).setCell ⟨gb346, 2, none⟩ (.int .i64 t340)).setCell ⟨gb346, 3, none⟩ (.string t341)).setCell ⟨gb347, 0, none⟩ (.bool t342)).setCell ⟨gb347, 1, none⟩ (.int .i64 t343)).setCell ⟨gb347, 2, none⟩ (.int .i64 t344)).setCell ⟨gb347, 3, none⟩ (.string t345))) := ⟨by repeat ((with_reducible first | exact HB.out | refine below_set ?_ GE346.out | refine below_set ?_ GE347.out))⟩
       (try clear BK316)
       (try clear BK317)
       (try clear BK327)
       (try clear BK328)
       (try clear BK346)
       (try clear BK347)
       (try clear HB)
       generalize ((((((((w126.setCell ⟨gb346, 0, none⟩ (.bool t338)).setCell ⟨gb346, 1, none⟩ (.int .i64 t339)).setCell ⟨gb346, 2, none⟩ (.int .i64 t340)).setCell ⟨gb346, 3, none⟩ (.string t341)).setCell ⟨gb347, 0, none⟩ (.bool t342)).setCell ⟨gb347, 1, none⟩ (.int .i64 t343)).setCell ⟨gb347, 2, none⟩ (.int .i64 t344)).setCell ⟨gb347, 3, none⟩ (.string t345)) = w164 at n0_ n1_ n2_ n3_ n4_ n5_ n6_ ⊢
       have BK316 := n0_
       have BK317 := n1_
       have BK327 := n2_
       have BK328 := n3_
       have BK346 := n4_
       have BK347 := n5_
       have HB := n6_
       clear n0_ n1_ n2_ n3_ n4_ n5_ n6_
       replace BK316 := Aside0.mk (blk_drew BK316.out)
       replace BK317 := Aside0.mk (blk_drew BK317.out)
       replace BK327 := Aside0.mk (blk_drew BK327.out)
       replace BK328 := Aside0.mk (blk_drew BK328.out)
       replace BK346 := Aside0.mk (blk_drew BK346.out)
       replace BK347 := Aside0.mk (blk_drew BK347.out)
       replace HB := Aside0.mk (below_drew1 HB.out)
       refine start_ (n := 32) (S := fun w' => w'.cell? ⟨gb347, 0, none⟩ = some (.bool t342) ∧ w'.cell? ⟨gb347, 1, none⟩ = some (.int .i64 t343) ∧ w'.cell? ⟨gb347, 2, none⟩ = some (.int .i64 t344) ∧ w'.cell? ⟨gb347, 3, none⟩ = some (.string t345) ∧ w'.cell? ⟨gb346, 0, none⟩ = some (.bool t338) ∧ w'.cell? ⟨gb346, 1, none⟩ = some (.int .i64 t339) ∧ w'.cell? ⟨gb346, 2, none⟩ = some (.int .i64 t340) ∧ w'.cell? ⟨gb346, 3, none⟩ = some (.string t341) ∧ w'.cell? ⟨gb316, 0, none⟩ = some (.bool t308) ∧ w'.cell? ⟨gb316, 1, none⟩ = some (.int .i64 t309) ∧ w'.cell? ⟨gb316, 2, none⟩ = some (.int .i64 t310) ∧ w'.cell? ⟨gb316, 3, none⟩ = some (.string t311) ∧ w'.cell? ⟨gb317, 0, none⟩ = some (.bool t312) ∧ w'.cell? ⟨gb317, 1, none⟩ = some (.int .i64 t313) ∧ w'.cell? ⟨gb317, 2, none⟩ = some (.int .i64 t314) ∧ w'.cell? ⟨gb317, 3, none⟩ = some (.string t315)) (ds := []) #[false, false, false, false, false, false, false, false, false, false, false, false, false, false, false, false, false, false, false, false, false, false, false, false, false, false, false, false, false, false, false, false] (by kernel_rfl) rfl rfl ⟨b3_ BK347.out 0 rfl, b3_ BK347.out 1 rfl, b3_ BK347.out 2 rfl, b3_ BK347.out 3 rfl, b3_ BK346.out 0 rfl, b3_ BK346.out 1 rfl, b3_ BK346.out 2 rfl, b3_ BK346.out 3 rfl, b3_ BK316.out 0 rfl, b3_ BK316.out 1 rfl, b3_ BK316.out 2 rfl, b3_ BK316.out 3 rfl, b3_ BK317.out 0 rfl, b3_ BK317.out 1 rfl, b3_ BK317.out 2 rfl, b3_ BK317.out 3 rfl⟩ (fun hHeld => ?_); refine with_tabW laws_FnAhead.tab12 laws_FnAhead.bits12 (fun HT_ HW_ => ?_)
       generalize w164.drew = w165 at BK316 BK317 BK327 BK328 BK346 BK347 HB hHeld ⊢
       refine take_ (i := 0) (N := some 80) (v := ?_) (a' := ?_) #[true, false, false, false, false, false, false, false, false, false, false, false, false, false, false, false, false, false, false, false, false, false, false, false, false, false, false, false, false, false, false, false] rfl rfl (take_ofW HT_.out HW_.out (by kernel_rfl)) (fun _ _ _ h => h) (Or.inl ⟨by rfl, ?_⟩) hHeld ?_ ?_
       rotate_left
       ·
        rintro w' ⟨s0, s1, s2, s3, s4, s5, s6, s7, s8, s9, s10, s11, s12, s13, s14, s15⟩
        go_simp
        with_reducible rfl
       rotate_left
       ·
        simp only [Act.put, List.setIfInBounds_toArray, List.set_cons_zero, List.set_cons_succ, i64_w, i32_w]
        rfl
       refine take_ (i := 1) (N := some 81) (v := ?_) (a' := ?_) #[true, true, false, false, false, false, false, false, false, false, false, false, false, false, false, false, false, false, false, false, false, false, false, false, false, false, false, false, false, false, false, false] rfl rfl (take_ofW HT_.out HW_.out (by kernel_rfl)) (fun _ _ _ h => h) (Or.inl ⟨by rfl, ?_⟩) hHeld ?_ ?_
       rotate_left
       ·
        rintro w' ⟨s0, s1, s2, s3, s4, s5, s6, s7, s8, s9, s10, s11, s12, s13, s14, s15⟩
        go_simp
        with_reducible rfl
       rotate_left
       ·
        simp only [Act.put, List.setIfInBounds_toArray, List.set_cons_zero, List.set_cons_succ, i64_w, i32_w]
        rfl
       refine one_ (i := 2) (N := some 82) #[true, true, true, false, false, false, false, false, false, false, false, false, false, false, false, false, false, false, false, false, false, false, false, false, false, false, false, false, false, false, false, false] rfl rfl (one_of HT_.out (by kernel_rfl)) (by decide) (fun K hK => ?_)
       refine goes_ Try.func7 (by kernel_rfl) rfl #[.agg #[.bool t342, .int .i64 t343, .int .i64 t344, .string t345], .agg #[.bool t338, .int .i64 t339, .int .i64 t340, .string t341]] (by rfl) rfl rfl (by (try simp only [List.map_toArray, List.map_cons, List.map_nil]); rfl) ?_
       with_reducible refine (impl_RecAhead.calls kj65 t342 t343 t344 t345 t338 t339 t340 t341 false _ A138.out).mono ?_
       rintro e w166 ⟨rfl, hb⟩
       refine ⟨_, rfl, ?_⟩
       replace BK316 := Aside0.mk (blk_below BK316.out hb)
       replace BK317 := Aside0.mk (blk_below BK317.out hb)
       replace BK327 := Aside0.mk (blk_below BK327.out hb)
       replace BK328 := Aside0.mk (blk_below BK328.out hb)
       replace BK346 := Aside0.mk (blk_below BK346.out hb)
       replace BK347 := Aside0.mk (blk_below BK347.out hb)
       replace HB := Aside0.mk (below_step HB.out hb)
       (try clear hb)
       (try clear hb2)
       (try clear hk)
       (try clear hi)
       refine hK.out _ _ ⟨b3_ BK347.out 0 rfl, b3_ BK347.out 1 rfl, b3_ BK347.out 2 rfl, b3_ BK347.out 3 rfl, b3_ BK346.out 0 rfl, b3_ BK346.out 1 rfl, b3_ BK346.out 2 rfl, b3_ BK346.out 3 rfl, b3_ BK316.out 0 rfl, b3_ BK316.out 1 rfl, b3_ BK316.out 2 rfl, b3_ BK316.out 3 rfl, b3_ BK317.out 0 rfl, b3_ BK317.out 1 rfl, b3_ BK317.out 2 rfl, b3_ BK317.out 3 rfl⟩ (fun hHeld => ?_)
       clear hK K
       refine norm_ (a' := ?_) ?_ ?_
       rotate_left
       ·
        show Act.put _ (some 82) _ = _
        simp only [Act.put, List.setIfInBounds_toArray, List.set_cons_zero, List.set_cons_succ, i64_w, i32_w]
        rfl
       refine pure_ (i := 3) (N := some 83) (v := ?_) (a' := ?_) #[true, true, true, true, false, false, false, false, false, false, false, false, false, false, false, false, false, false, false, false, false, false, false, false, false, false, false, false, false, false, false, false] rfl rfl (any_of HT_.out (by kernel_rfl)) (fun _ _ _ h => h) (Or.inl ⟨by rfl, ?_⟩) ?_ ?_
       rotate_left
       ·
        intro w'
        go_simp
        with_reducible rfl
       rotate_left
       ·
        simp only [Act.put, List.setIfInBounds_toArray, List.set_cons_zero, List.set_cons_succ, i64_w, i32_w]
        rfl
       refine take_ (i := 4) (N := some 84) (v := ?_) (a' := ?_) #[true, true, true, true, true, false, false, false, false, false, false, false, false, false, false, false, false, false, false, false, false, false, false, false, false, false, false, false, false, false, false, false] rfl rfl (take_ofW HT_.out HW_.out (by kernel_rfl)) (fun _ _ _ h => h) (Or.inl ⟨by rfl, ?_⟩) hHeld ?_ ?_
       rotate_left
       ·
        rintro w' ⟨s0, s1, s2, s3, s4, s5, s6, s7, s8, s9, s10, s11, s12, s13, s14, s15⟩
        go_simp
        with_reducible rfl
       rotate_left
       ·
        simp only [Act.put, List.setIfInBounds_toArray, List.set_cons_zero, List.set_cons_succ, i64_w, i32_w]
        rfl
       refine take_ (i := 5) (N := some 85) (v := ?_) (a' := ?_) #[true, true, true, true, true, true, false, false, false, false, false, false, false, false, false, false, false, false, false, false, false, false, false, false, false, false, false, false, false, false, false, false] rfl rfl (take_ofW HT_.out HW_.out (by kernel_rfl)) (fun _ _ _ h => h) (Or.inl ⟨by rfl, ?_⟩) hHeld ?_ ?_
       rotate_left
       ·
        rintro w' ⟨s0, s1, s2, s3, s4, s5, s6, s7, s8, s9, s10, s11, s12, s13, s14, s15⟩
        go_simp
        with_reducible rfl
       rotate_left
       ·
        simp only [Act.put, List.setIfInBounds_toArray, List.set_cons_zero, List.set_cons_succ, i64_w, i32_w]
        rfl
       refine pure_ (i := 6) (N := some 86) (v := ?_) (a' := ?_) #[true, true, true, true, true, true, true, false, false, false, false, false, false, false, false, false, false, false, false, false, false, false, false, false, false, false, false, false, false, false, false, false] rfl rfl (any_of HT_.out (by kernel_rfl)) (fun _ _ _ h => h) (Or.inl ⟨by rfl, ?_⟩) ?_ ?_
       rotate_left
       ·
        intro w'
        go_simp
        with_reducible rfl
       rotate_left
       ·
        simp only [Act.put, List.setIfInBounds_toArray, List.set_cons_zero, List.set_cons_succ, i64_w, i32_w]
        rfl
       refine pure_ (i := 7) (N := some 87) (v := ?_) (a' := ?_) #[true, true, true, true, true, true, true, true, false, false, false, false, false, false, false, false, false, false, false, false, false, false, false, false, false, false, false, false, false, false, false, false] rfl rfl (any_of HT_.out (by kernel_rfl)) (fun _ _ _ h => h) (Or.inl ⟨by rfl, ?_⟩) ?_ ?_
       rotate_left
       ·
        intro w'
        go_simp
        with_reducible rfl
       rotate_left
       ·
        simp only [Act.put, List.setIfInBounds_toArray, List.set_cons_zero, List.set_cons_succ, i64_w, i32_w]
        rfl
       refine pure_ (i := 8) (N := some 88) (v := undef) (a' := ?_) #[true, true, true, true, true, true, true, true, true, false, false, false, false, false, false, false, false, false, false, false, false, false, false, false, false, false, false, false, false, false, false, false] rfl rfl (any_of HT_.out (by kernel_rfl)) (fun _ _ _ h => h) (Or.inr ⟨by rfl, rfl⟩) ?_ ?_
       rotate_left
       ·
        simp only [Act.put, List.setIfInBounds_toArray, List.set_cons_zero, List.set_cons_succ, i64_w, i32_w]
        rfl
       refine pure_ (i := 9) (N := some 89) (v := undef) (a' := ?_) #[true, true, true, true, true, true, true, true, true, true, false, false, false, false, false, false, false, false, false, false, false, false, false, false, false, false, false, false, false, false, false, false] rfl rfl (any_of HT_.out (by kernel_rfl)) (fun _ _ _ h => h) (Or.inr ⟨by rfl, rfl⟩) ?_ ?_
       rotate_left
       ·
        simp only [Act.put, List.setIfInBounds_toArray, List.set_cons_zero, List.set_cons_succ, i64_w, i32_w]
        rfl
       refine pure_ (i := 10) (N := some 90) (v := undef) (a' := ?_) #[true, true, true, true, true, true, true, true, true, true, true, false, false, false, false, false, false, false, false, false, false, false, false, false, false, false, false, false, false, false, false, false] rfl rfl (any_of HT_.out (by kernel_rfl)) (fun _ _ _ h => h) (Or.inr ⟨by rfl, rfl⟩) ?_ ?_
       rotate_left
       ·
        simp only [Act.put, List.setIfInBounds_toArray, List.set_cons_zero, List.set_cons_succ, i64_w, i32_w]
        rfl
       refine pure_ (i := 11) (N := some 91) (v := ?_) (a' := ?_) #[true, true, true, true, true, true, true, true, true, true, true, true, false, false, false, false, false, false, false, false, false, false, false, false, false, false, false, false, false, false, false, false] rfl rfl (any_of HT_.out (by kernel_rfl)) (fun _ _ _ h => h) (Or.inl ⟨by rfl, ?_⟩) ?_ ?_
       rotate_left
       ·
        intro w'
        go_simp
        with_reducible rfl
       rotate_left
       ·
        simp only [Act.put, List.setIfInBounds_toArray, List.set_cons_zero, List.set_cons_succ, i64_w, i32_w]
        rfl
       refine pure_ (i := 12) (N := some 92) (v := ?_) (a' := ?_) #[true, true, true, true, true, true, true, true, true, true, true, true, true, false, false, false, false, false, false, false, false, false, false, false, false, false, false, false, false, false, false, false] rfl rfl (any_of HT_.out (by kernel_rfl)) (fun _ _ _ h => h) (Or.inl ⟨by rfl, ?_⟩) ?_ ?_
       rotate_left
       ·
        intro w'
        go_simp
        with_reducible rfl
       rotate_left
       ·
        simp only [Act.put, List.setIfInBounds_toArray, List.set_cons_zero, List.set_cons_succ, i64_w, i32_w]
        rfl
       refine pure_ (i := 13) (N := some 93) (v := ?_) (a' := ?_) #[true, true, true, true, true, true, true, true, true, true, true, true, true, true, false, false, false, false, false, false, false, false, false, false, false, false, false, false, false, false, false, false] rfl rfl (any_of HT_.out (by kernel_rfl)) (fun _ _ _ h => h) (Or.inl ⟨by rfl, ?_⟩) ?_ ?_
       rotate_left
       ·
        intro w'
        go_simp
        with_reducible rfl
       rotate_left
       ·
        simp only [Act.put, List.setIfInBounds_toArray, List.set_cons_zero, List.set_cons_succ, i64_w, i32_w]
        rfl
       refine take_ (i := 14) (N := some 94) (v := ?_) (a' := ?_) #[true, true, true, true, true, true, true, true, true, true, true, true, true, true, true, false, false, false, false, false, false, false, false, false, false, false, false, false, false, false, false, false] rfl rfl (take_ofW HT_.out HW_.out (by kernel_rfl)) (fun _ _ _ h => h) (Or.inl ⟨by rfl, ?_⟩) hHeld ?_ ?_
       rotate_left
       ·
        rintro w' ⟨s0, s1, s2, s3, s4, s5, s6, s7, s8, s9, s10, s11, s12, s13, s14, s15⟩
        go_simp
        with_reducible rfl
       rotate_left
       ·
        simp only [Act.put, List.setIfInBounds_toArray, List.set_cons_zero, List.set_cons_succ, i64_w, i32_w]
        rfl
       refine take_ (i := 15) (N := some 95) (v := ?_) (a' := ?_) #[true, true, true, true, true, true, true, true, true, true, true, true, true, true, true, true, false, false, false, false, false, false, false, false, false, false, false, false, false, false, false, false] rfl rfl (take_ofW HT_.out HW_.out (by kernel_rfl)) (fun _ _ _ h => h) (Or.inl ⟨by rfl, ?_⟩) hHeld ?_ ?_
       rotate_left
       ·
        rintro w' ⟨s0, s1, s2, s3, s4, s5, s6, s7, s8, s9, s10, s11, s12, s13, s14, s15⟩
        go_simp
        with_reducible rfl
       rotate_left
       ·
        simp only [Act.put, List.setIfInBounds_toArray, List.set_cons_zero, List.set_cons_succ, i64_w, i32_w]
        rfl
       refine pure_ (i := 16) (N := some 96) (v := ?_) (a' := ?_) #[true, true, true, true, true, true, true, true, true, true, true, true, true, true, true, true, true, false, false, false, false, false, false, false, false, false, false, false, false, false, false, false] rfl rfl (any_of HT_.out (by kernel_rfl)) (fun _ _ _ h => h) (Or.inl ⟨by rfl, ?_⟩) ?_ ?_
       rotate_left
       ·
        intro w'
        go_simp
        with_reducible rfl
       rotate_left
       ·
        simp only [Act.put, List.setIfInBounds_toArray, List.set_cons_zero, List.set_cons_succ, i64_w, i32_w]
        rfl
       refine pure_ (i := 17) (N := some 97) (v := ?_) (a' := ?_) #[true, true, true, true, true, true, true, true, true, true, true, true, true, true, true, true, true, true, false, false, false, false, false, false, false, false, false, false, false, false, false, false] rfl rfl (any_of HT_.out (by kernel_rfl)) (fun _ _ _ h => h) (Or.inl ⟨by rfl, ?_⟩) ?_ ?_
       rotate_left
       ·
        intro w'
        go_simp
        with_reducible rfl
       rotate_left
       ·
        simp only [Act.put, List.setIfInBounds_toArray, List.set_cons_zero, List.set_cons_succ, i64_w, i32_w]
        rfl
       refine take_ (i := 18) (N := some 98) (v := ?_) (a' := ?_) #[true, true, true, true, true, true, true, true, true, true, true, true, true, true, true, true, true, true, true, false, false, false, false, false, false, false, false, false, false, false, false, false] rfl rfl (take_ofW HT_.out HW_.out (by kernel_rfl)) (fun _ _ _ h => h) (Or.inl ⟨by rfl, ?_⟩) hHeld ?_ ?_
       rotate_left
       ·
        rintro w' ⟨s0, s1, s2, s3, s4, s5, s6, s7, s8, s9, s10, s11, s12, s13, s14, s15⟩
        go_simp
        with_reducible rfl
       rotate_left
       ·
        simp only [Act.put, List.setIfInBounds_toArray, List.set_cons_zero, List.set_cons_succ, i64_w, i32_w]
        rfl
       refine take_ (i := 19) (N := some 99) (v := ?_) (a' := ?_) #[true, true, true, true, true, true, true, true, true, true, true, true, true, true, true, true, true, true, true, true, false, false, false, false, false, false, false, false, false, false, false, false] rfl rfl (take_ofW HT_.out HW_.out (by kernel_rfl)) (fun _ _ _ h => h) (Or.inl ⟨by rfl, ?_⟩) hHeld ?_ ?_
       rotate_left
       ·
        rintro w' ⟨s0, s1, s2, s3, s4, s5, s6, s7, s8, s9, s10, s11, s12, s13, s14, s15⟩
        go_simp
        with_reducible rfl
       rotate_left
       ·
        simp only [Act.put, List.setIfInBounds_toArray, List.set_cons_zero, List.set_cons_succ, i64_w, i32_w]
        rfl
       refine pure_ (i := 20) (N := some 100) (v := ?_) (a' := ?_) #[true, true, true, true, true, true, true, true, true, true, true, true, true, true, true, true, true, true, true, true, true, false, false, false, false, false, false, false, false, false, false, false] rfl rfl (any_of HT_.out (by kernel_rfl)) (fun _ _ _ h => h) (Or.inl ⟨by rfl, ?_⟩) ?_ ?_
       rotate_left
       ·
        intro w'
        go_simp
        with_reducible rfl
       rotate_left
       ·
        simp only [Act.put, List.setIfInBounds_toArray, List.set_cons_zero, List.set_cons_succ, i64_w, i32_w]
        rfl
       refine pure_ (i := 21) (N := some 101) (v := ?_) (a' := ?_) #[true, true, true, true, true, true, true, true, true, true, true, true, true, true, true, true, true, true, true, true, true, true, false, false, false, false, false, false, false, false, false, false] rfl rfl (any_of HT_.out (by kernel_rfl)) (fun _ _ _ h => h) (Or.inl ⟨by rfl, ?_⟩) ?_ ?_
       rotate_left
       ·
        intro w'
        go_simp
        with_reducible rfl
       rotate_left
       ·
        simp only [Act.put, List.setIfInBounds_toArray, List.set_cons_zero, List.set_cons_succ, i64_w, i32_w]
        rfl
       refine pure_ (i := 22) (N := some 102) (v := ?_) (a' := ?_) #[true, true, true, true, true, true, true, true, true, true, true, true, true, true, true, true, true, true, true, true, true, true, true, false, false, false, false, false, false, false, false, false] rfl rfl (any_of HT_.out (by kernel_rfl)) (fun _ _ _ h => h) (Or.inl ⟨by rfl, ?_⟩) ?_ ?_
       rotate_left
       ·
        intro w'
        go_simp
        with_reducible rfl
       rotate_left
       ·
        simp only [Act.put, List.setIfInBounds_toArray, List.set_cons_zero, List.set_cons_succ, i64_w, i32_w]
        rfl
       refine pure_ (i := 23) (N := some 103) (v := ?_) (a' := ?_) #[true, true, true, true, true, true, true, true, true, true, true, true, true, true, true, true, true, true, true, true, true, true, true, true, false, false, false, false, false, false, false, false] rfl rfl (any_of HT_.out (by kernel_rfl)) (fun _ _ _ h => h) (Or.inl ⟨by rfl, ?_⟩) ?_ ?_
       rotate_left
       ·
        intro w'
        go_simp
        with_reducible rfl
       rotate_left
       ·
        simp only [Act.put, List.setIfInBounds_toArray, List.set_cons_zero, List.set_cons_succ, i64_w, i32_w]
        rfl
       refine take_ (i := 24) (N := some 104) (v := ?_) (a' := ?_) #[true, true, true, true, true, true, true, true, true, true, true, true, true, true, true, true, true, true, true, true, true, true, true, true, true, false, false, false, false, false, false, false] rfl rfl (take_ofW HT_.out HW_.out (by kernel_rfl)) (fun _ _ _ h => h) (Or.inl ⟨by rfl, ?_⟩) hHeld ?_ ?_
       rotate_left
       ·
        rintro w' ⟨s0, s1, s2, s3, s4, s5, s6, s7, s8, s9, s10, s11, s12, s13, s14, s15⟩
        go_simp
        with_reducible rfl
       rotate_left
       ·
        simp only [Act.put, List.setIfInBounds_toArray, List.set_cons_zero, List.set_cons_succ, i64_w, i32_w]
        rfl
       refine take_ (i := 25) (N := some 105) (v := ?_) (a' := ?_) #[true, true, true, true, true, true, true, true, true, true, true, true, true, true, true, true, true, true, true, true, true, true, true, true, true, true, false, false, false, false, false, false] rfl rfl (take_ofW HT_.out HW_.out (by kernel_rfl)) (fun _ _ _ h => h) (Or.inl ⟨by rfl, ?_⟩) hHeld ?_ ?_
       rotate_left
       ·
        rintro w' ⟨s0, s1, s2, s3, s4, s5, s6, s7, s8, s9, s10, s11, s12, s13, s14, s15⟩
        go_simp
        with_reducible rfl
       rotate_left
       ·
        simp only [Act.put, List.setIfInBounds_toArray, List.set_cons_zero, List.set_cons_succ, i64_w, i32_w]
        rfl
       refine pure_ (i := 26) (N := some 106) (v := ?_) (a' := ?_) #[true, true, true, true, true, true, true, true, true, true, true, true, true, true, true, true, true, true, true, true, true, true, true, true, true, true, true, false, false, false, false, false] rfl rfl (any_of HT_.out (by kernel_rfl)) (fun _ _ _ h => h) (Or.inl ⟨by rfl, ?_⟩) ?_ ?_
       rotate_left
       ·
        intro w'
        go_simp
        with_reducible rfl
       rotate_left
       ·
        simp only [Act.put, List.setIfInBounds_toArray, List.set_cons_zero, List.set_cons_succ, i64_w, i32_w]
        rfl
       refine take_ (i := 27) (N := some 107) (v := ?_) (a' := ?_) #[true, true, true, true, true, true, true, true, true, true, true, true, true, true, true, true, true, true, true, true, true, true, true, true, true, true, true, true, false, false, false, false] rfl rfl (take_ofW HT_.out HW_.out (by kernel_rfl)) (fun _ _ _ h => h) (Or.inl ⟨by rfl, ?_⟩) hHeld ?_ ?_
       rotate_left
       ·
        rintro w' ⟨s0, s1, s2, s3, s4, s5, s6, s7, s8, s9, s10, s11, s12, s13, s14, s15⟩
        go_simp
        with_reducible rfl
       rotate_left
       ·
        simp only [Act.put, List.setIfInBounds_toArray, List.set_cons_zero, List.set_cons_succ, i64_w, i32_w]
        rfl
       refine take_ (i := 28) (N := some 108) (v := ?_) (a' := ?_) #[true, true, true, true, true, true, true, true, true, true, true, true, true, true, true, true, true, true, true, true, true, true, true, true, true, true, true, true, true, false, false, false] rfl rfl (take_ofW HT_.out HW_.out (by kernel_rfl)) (fun _ _ _ h => h) (Or.inl ⟨by rfl, ?_⟩) hHeld ?_ ?_
       rotate_left
       ·
        rintro w' ⟨s0, s1, s2, s3, s4, s5, s6, s7, s8, s9, s10, s11, s12, s13, s14, s15⟩
        go_simp
        with_reducible rfl
       rotate_left
       ·
        simp only [Act.put, List.setIfInBounds_toArray, List.set_cons_zero, List.set_cons_succ, i64_w, i32_w]
        rfl
       refine pure_ (i := 29) (N := some 109) (v := ?_) (a' := ?_) #[true, true, true, true, true, true, true, true, true, true, true, true, true, true, true, true, true, true, true, true, true, true, true, true, true, true, true, true, true, true, false, false] rfl rfl (any_of HT_.out (by kernel_rfl)) (fun _ _ _ h => h) (Or.inl ⟨by rfl, ?_⟩) ?_ ?_
       rotate_left
       ·
        intro w'
        go_simp
        with_reducible rfl
       rotate_left
       ·
        simp only [Act.put, List.setIfInBounds_toArray, List.set_cons_zero, List.set_cons_succ, i64_w, i32_w]
        rfl
       refine pure_ (i := 30) (N := some 110) (v := ?_) (a' := ?_) #[true, true, true, true, true, true, true, true, true, true, true, true, true, true, true, true, true, true, true, true, true, true, true, true, true, true, true, true, true, true, true, false] rfl rfl (any_of HT_.out (by kernel_rfl)) (fun _ _ _ h => h) (Or.inl ⟨by rfl, ?_⟩) ?_ ?_
       rotate_left
       ·
        intro w'
        go_simp
        with_reducible rfl
       rotate_left
       ·
        simp only [Act.put, List.setIfInBounds_toArray, List.set_cons_zero, List.set_cons_succ, i64_w, i32_w]
        rfl
       refine pure_ (i := 31) (N := some 111) (v := ?_) (a' := ?_) #[true, true, true, true, true, true, true, true, true, true, true, true, true, true, true, true, true, true, true, true, true, true, true, true, true, true, true, true, true, true, true, true] rfl rfl (any_of HT_.out (by kernel_rfl)) (fun _ _ _ h => h) (Or.inl ⟨by rfl, ?_⟩) ?_ ?_
       rotate_left
       ·
        intro w'
        go_simp
        with_reducible rfl
       rotate_left
       ·
        simp only [Act.put, List.setIfInBounds_toArray, List.set_cons_zero, List.set_cons_succ, i64_w, i32_w]
        rfl
       refine done_ (done_of HT_.out (by kernel_rfl)) ?_
       try go_wp2
       go_meet
       case rel => exact ⟨_, (((t338 == t342 && (t339 == t343 && (t340 == t344 && (t341.toList == t345.toList)))) != (t308 == t312 && (t309 == t313 && (t310 == t314 && (t311.toList == t315.toList)))))), (by rfl), H', ⟨by have := HJ8.out; have := HJ65.out; omega⟩, ⟨by (with_reducible repeat (first | refine blk_drewN ?_ _ | refine blk_drew ?_ | refine blk_alloc ?_ _)); exact BK316.out⟩, ⟨by (with_reducible repeat (first | refine blk_drewN ?_ _ | refine blk_drew ?_ | refine blk_alloc ?_ _)); exact BK317.out⟩, ⟨by (with_reducible repeat (first | refine blk_drewN ?_ _ | refine blk_drew ?_ | refine blk_alloc ?_ _)); exact BK327.out⟩, ⟨by (with_reducible repeat (first | refine blk_drewN ?_ _ | refine blk_drew ?_ | refine blk_alloc ?_ _)); exact BK328.out⟩, ⟨by (with_reducible repeat (first | refine blk_drewN ?_ _ | refine blk_drew ?_ | refine blk_alloc ?_ _)); exact BK346.out⟩, ⟨by (with_reducible repeat (first | refine blk_drewN ?_ _ | refine blk_drew ?_ | refine blk_alloc ?_ _)); exact BK347.out⟩, ⟨by repeat ((with_reducible exact HB.out))⟩⟩
      rw [if_pos c143] at H
      have c143b0 : (!(t338 == t308) || (!(t339 == t309) || (!(t340 == t310) || (!(t341.toList == t311.toList))))) = true := c143
      clear c143
      (skip)
      by_cases c144 : (!(t338 == t312) || (!(t339 == t313) || (!(t340 == t314) || (!(t341.toList == t315.toList))))) = true
      ·
       rw [if_pos c144] at H
       have c144b0 : (!(t338 == t312) || (!(t339 == t313) || (!(t340 == t314) || (!(t341.toList == t315.toList))))) = true := c144
       clear c144
       exact (laws_FnAhead.j2_no H HTRUE_.out).elim
      rw [if_neg c144] at H
      have c144b0 : (!(t338 == t312) || (!(t339 == t313) || (!(t340 == t314) || (!(t341.toList == t315.toList))))) = false := by simpa using c144
      clear c144
      by_cases c148 : (!(t342 == t308) || (!(t343 == t309) || (!(t344 == t310) || (!(t345.toList == t311.toList))))) = true
      rotate_left
      ·
       rw [if_neg c148] at H
       have c148b0 : (!(t342 == t308) || (!(t343 == t309) || (!(t344 == t310) || (!(t345.toList == t311.toList))))) = false := by simpa using c148
       clear c148
       have H' := Aside0.mk H
       clear H
       try go_wp2
       have n0_ : Aside0 (((((((((w126.setCell ⟨gb346, 0, none⟩ (.bool t338)).setCell ⟨gb346, 1, none⟩ (.int .i64 t339)).setCell ⟨gb346, 2, none⟩ (.int .i64 t340)).setCell ⟨gb346, 3, none⟩ (.string t341)).setCell ⟨gb347, 0, none⟩ (.bool t342)).setCell ⟨gb347, 1, none⟩ (.int .i64 t343)).setCell ⟨gb347, 2, none⟩ (.int .i64 t344)).setCell ⟨gb347, 3, none⟩ (.string t345)).heap[gb316]? = some (.cells #[.bool t308, .int .i64 t309, .int .i64 t310, .string t311] 25 (0, 0))) := ⟨by (with_reducible repeat (first | refine blk_drewN ?_ _ | refine blk_drew ?_ | refine blk_alloc ?_ _)); refine blk_far ?_ NB316_347.out _; (with_reducible repeat (first | refine blk_drewN ?_ _ | refine blk_drew ?_ | refine blk_alloc ?_ _)); refine blk_far ?_ NB316_347.out _; (with_reducible repeat (first | refine blk_drewN ?_ _ | refine blk_drew ?_ | refine blk_alloc ?_ _)); refine blk_far ?_ NB316_347.out _; (with_reducible repeat (first | refine blk_drewN ?_ _ | refine blk_drew ?_ | refine blk_alloc ?_ _)); refine blk_far ?_ NB316_347.out _; (with_reducible repeat (first | refine blk_drewN ?_ _ | refine blk_drew ?_ | refine blk_alloc ?_ _)); refine blk_far ?_ NB316_346.out _; (with_reducible repeat (first | refine blk_drewN ?_ _ | refine blk_drew ?_ | refine blk_alloc ?_ _)); refine blk_far ?_ NB316_346.out _; (with_reducible repeat (first | refine blk_drewN ?_ _ | refine blk_drew ?_ | refine blk_alloc ?_ _)); refine blk_far ?_ NB316_346.out _; (with_reducible repeat (first | refine blk_drewN ?_ _ | refine blk_drew ?_ | refine blk_alloc ?_ _)); refine blk_far ?_ NB316_346.out _; (with_reducible repeat (first | refine blk_drewN ?_ _ | refine blk_drew ?_ | refine blk_alloc ?_ _)); exact BK316.out⟩
       have n1_ : Aside0 (((((((((w126.setCell ⟨gb346, 0, none⟩ (.bool t338)).setCell ⟨gb346, 1, none⟩ (.int .i64 t339)).setCell ⟨gb346, 2, none⟩ (.int .i64 t340)).setCell ⟨gb346, 3, none⟩ (.string t341)).setCell ⟨gb347, 0, none⟩ (.bool t342)).setCell ⟨gb347, 1, none⟩ (.int .i64 t343)).setCell ⟨gb347, 2, none⟩ (.int .i64 t344)).setCell ⟨gb347, 3, none⟩ (.string t345)).heap[gb317]? = some (.cells #[.bool t312, .int .i64 t313, .int .i64 t314, .string t315] 25 (0, 0))) := ⟨by (with_reducible repeat (first | refine blk_drewN ?_ _ | refine blk_drew ?_ | refine blk_alloc ?_ _)); refine blk_far ?_ NB317_347.out _; (with_reducible repeat (first | refine blk_drewN ?_ _ | refine blk_drew ?_ | refine blk_alloc ?_ _)); refine blk_far ?_ NB317_347.out _; (with_reducible repeat (first | refine blk_drewN ?_ _ | refine blk_drew ?_ | refine blk_alloc ?_ _)); refine blk_far ?_ NB317_347.out _; (with_reducible repeat (first | refine blk_drewN ?_ _ | refine blk_drew ?_ | refine blk_alloc ?_ _)); refine blk_far ?_ NB317_347.out _; (with_reducible repeat (first | refine blk_drewN ?_ _ | refine blk_drew ?_ | refine blk_alloc ?_ _)); refine blk_far ?_ NB317_346.out _; (with_reducible repeat (first | refine blk_drewN ?_ _ | refine blk_drew ?_ | refine blk_alloc ?_ _)); refine blk_far ?_ NB317_346.out _; (with_reducible repeat (first | refine blk_drewN ?_ _ | refine blk_drew ?_ | refine blk_alloc ?_ _)); refine blk_far ?_ NB317_346.out _; (with_reducible repeat (first | refine blk_drewN ?_ _ | refine blk_drew ?_ | refine blk_alloc ?_ _)); refine blk_far ?_ NB317_346.out _; (with_reducible repeat (first | refine blk_drewN ?_ _ | refine blk_drew ?_ | refine blk_alloc ?_ _)); exact BK317.out⟩
       have n2_ : Aside0 (((((((((w126.setCell ⟨gb346, 0, none⟩ (.bool t338)).setCell ⟨gb346, 1, none⟩ (.int .i64 t339)).setCell ⟨gb346, 2, none⟩ (.int .i64 t340)).setCell ⟨gb346, 3, none⟩ (.string t341)).setCell ⟨gb347, 0, none⟩ (.bool t342)).setCell ⟨gb347, 1, none⟩ (.int .i64 t343)).setCell ⟨gb347, 2, none⟩ (.int .i64 t344)).setCell ⟨gb347, 3, none⟩ (.string t345)).heap[gb327]? = some (.cells #[.bool t319, .int .i64 t320, .int .i64 t321, .string t322] 25 (0, 0))) := ⟨by (with_reducible repeat (first | refine blk_drewN ?_ _ | refine blk_drew ?_ | refine blk_alloc ?_ _)); refine blk_far ?_ NB327_347.out _; (with_reducible repeat (first | refine blk_drewN ?_ _ | refine blk_drew ?_ | refine blk_alloc ?_ _)); refine blk_far ?_ NB327_347.out _; (with_reducible repeat (first | refine blk_drewN ?_ _ | refine blk_drew ?_ | refine blk_alloc ?_ _)); refine blk_far ?_ NB327_347.out _; (with_reducible repeat (first | refine blk_drewN ?_ _ | refine blk_drew ?_ | refine blk_alloc ?_ _)); refine blk_far ?_ NB327_347.out _; (with_reducible repeat (first | refine blk_drewN ?_ _ | refine blk_drew ?_ | refine blk_alloc ?_ _)); refine blk_far ?_ NB327_346.out _; (with_reducible repeat (first | refine blk_drewN ?_ _ | refine blk_drew ?_ | refine blk_alloc ?_ _)); refine blk_far ?_ NB327_346.out _; (with_reducible repeat (first | refine blk_drewN ?_ _ | refine blk_drew ?_ | refine blk_alloc ?_ _)); refine blk_far ?_ NB327_346.out _; (with_reducible repeat (first | refine blk_drewN ?_ _ | refine blk_drew ?_ | refine blk_alloc ?_ _)); refine blk_far ?_ NB327_346.out _; (with_reducible repeat (first | refine blk_drewN ?_ _ | refine blk_drew ?_ | refine blk_alloc ?_ _)); exact BK327.out⟩
       have n3_ : Aside0 (((((((((w126.setCell ⟨gb346, 0, none⟩ (.bool t338)).setCell ⟨gb346, 1, none⟩ (.int .i64 t339)).setCell ⟨gb346, 2, none⟩ (.int .i64 t340)).setCell ⟨gb346, 3, none⟩ (.string t341)).setCell ⟨gb347, 0, none⟩ (.bool t342)).setCell ⟨gb347, 1, none⟩ (.int .i64 t343)).setCell ⟨gb347, 2, none⟩ (.int .i64 t344)).setCell ⟨gb347, 3, none⟩ (.string t345)).heap[gb328]? = some (.cells #[.bool t323, .int .i64 t324, .int .i64 t325, .string t326] 25 (0, 0))) := ⟨by (with_reducible repeat (first | refine blk_drewN ?_ _ | refine blk_drew ?_ | refine blk_alloc ?_ _)); refine blk_far ?_ NB328_347.out _; (with_reducible repeat (first | refine blk_drewN ?_ _ | refine blk_drew ?_ | refine blk_alloc ?_ _)); refine blk_far ?_ NB328_347.out _; (with_reducible repeat (first | refine blk_drewN ?_ _ | refine blk_drew ?_ | refine blk_alloc ?_ _)); refine blk_far ?_ NB328_347.out _; (with_reducible repeat (first | refine blk_drewN ?_ _ | refine blk_drew ?_ | refine blk_alloc ?_ _)); refine blk_far ?_ NB328_347.out _; (with_reducible repeat (first | refine blk_drewN ?_ _ | refine blk_drew ?_ | refine blk_alloc ?_ _)); refine blk_far ?_ NB328_346.out _; (with_reducible repeat (first | refine blk_drewN ?_ _ | refine blk_drew ?_ | refine blk_alloc ?_ _)); refine blk_far ?_ NB328_346.out _; (with_reducible repeat (first | refine blk_drewN ?_ _ | refine blk_drew ?_ | refine blk_alloc ?_ _)); refine blk_far ?_ NB328_346.out _; (with_reducible repeat (first | refine blk_drewN ?_ _ | refine blk_drew ?_ | refine blk_alloc ?_ _)); refine blk_far ?_ NB328_346.out _; (with_reducible repeat (first | refine blk_drewN ?_ _ | refine blk_drew ?_ | refine blk_alloc ?_ _)); exact BK328.out⟩
       have n4_ : Aside0 (((((((((w126.setCell ⟨gb346, 0, none⟩ (.bool t338)).setCell ⟨gb346, 1, none⟩ (.int .i64 t339)).setCell ⟨gb346, 2, none⟩ (.int .i64 t340)).setCell ⟨gb346, 3, none⟩ (.string t341)).setCell ⟨gb347, 0, none⟩ (.bool t342)).setCell ⟨gb347, 1, none⟩ (.int .i64 t343)).setCell ⟨gb347, 2, none⟩ (.int .i64 t344)).setCell ⟨gb347, 3, none⟩ (.string t345)).heap[gb346]? = some (.cells #[.bool t338, .int .i64 t339, .int .i64 t340, .string t341] 25 (0, 0))) := ⟨by (with_reducible repeat (first | refine blk_drewN ?_ _ | refine blk_drew ?_ | refine blk_alloc ?_ _)); refine blk_far ?_ NB346_347.out _; (with_reducible repeat (first | refine blk_drewN ?_ _ | refine blk_drew ?_ | refine blk_alloc ?_ _)); refine blk_far ?_ NB346_347.out _; (with_reducible repeat (first | refine blk_drewN ?_ _ | refine blk_drew ?_ | refine blk_alloc ?_ _)); refine blk_far ?_ NB346_347.out _; (with_reducible repeat (first | refine blk_drewN ?_ _ | refine blk_drew ?_ | refine blk_alloc ?_ _)); refine blk_far ?_ NB346_347.out _; (with_reducible repeat (first | refine blk_drewN ?_ _ | refine blk_drew ?_ | refine blk_alloc ?_ _)); refine blk_put (cs := #[.bool t338, .int .i64 t339, .int .i64 t340, .string (⟨#[]⟩ : ByteArray)]) ?_ 3 _ rfl; (with_reducible repeat (first | refine blk_drewN ?_ _ | refine blk_drew ?_ | refine blk_alloc ?_ _)); refine blk_put (cs := #[.bool t338, .int .i64 t339, .int .i64 0, .string (⟨#[]⟩ : ByteArray)]) ?_ 2 _ rfl; (with_reducible repeat (first | refine blk_drewN ?_ _ | refine blk_drew ?_ | refine blk_alloc ?_ _)); refine blk_put (cs := #[.bool t338, .int .i64 0, .int .i64 0, .string (⟨#[]⟩ : ByteArray)]) ?_ 1 _ rfl; (with_reducible repeat (first | refine blk_drewN ?_ _ | refine blk_drew ?_ | refine blk_alloc ?_ _)); refine blk_put (cs := #[.bool false, .int .i64 0, .int .i64 0, .string (⟨#[]⟩ : ByteArray)]) ?_ 0 _ rfl; (with_reducible repeat (first | refine blk_drewN ?_ _ | refine blk_drew ?_ | refine blk_alloc ?_ _)); exact BK346.out⟩
       have n5_ : Aside0 (((((((((w126.setCell ⟨gb346, 0, none⟩ (.bool t338)).setCell ⟨gb346, 1, none⟩ (.int .i64 t339)).setCell ⟨gb346, 2, none⟩ (.int .i64 t340)).setCell ⟨gb346, 3, none⟩ (.string t341)).setCell ⟨gb347, 0, none⟩ (.bool t342)).setCell ⟨gb347, 1, none⟩ (.int .i64 t343)).setCell ⟨gb347, 2, none⟩ (.int .i64 t344)).setCell ⟨gb347, 3, none⟩ (.string t345)).heap[gb347]? = some (.cells #[.bool t342, .int .i64 t343, .int .i64 t344, .string t345] 25 (0, 0))) := ⟨by (with_reducible repeat (first | refine blk_drewN ?_ _ | refine blk_drew ?_ | refine blk_alloc ?_ _)); refine blk_put (cs := #[.bool t342, .int .i64 t343, .int .i64 t344, .string (⟨#[]⟩ : ByteArray)]) ?_ 3 _ rfl; (with_reducible repeat (first | refine blk_drewN ?_ _ | refine blk_drew ?_ | refine blk_alloc ?_ _)); refine blk_put (cs := #[.bool t342, .int .i64 t343, .int .i64 0, .string (⟨#[]⟩ : ByteArray)]) ?_ 2 _ rfl; (with_reducible repeat (first | refine blk_drewN ?_ _ | refine blk_drew ?_ | refine blk_alloc ?_ _)); refine blk_put (cs := #[.bool t342, .int .i64 0, .int .i64 0, .string (⟨#[]⟩ : ByteArray)]) ?_ 1 _ rfl; (with_reducible repeat (first | refine blk_drewN ?_ _ | refine blk_drew ?_ | refine blk_alloc ?_ _)); refine blk_put (cs := #[.bool false, .int .i64 0, .int .i64 0, .string (⟨#[]⟩ : ByteArray)]) ?_ 0 _ rfl; (with_reducible repeat (first | refine blk_drewN ?_ _ | refine blk_drew ?_ | refine blk_alloc ?_ _)); refine blk_far ?_ NB347_346.out _; (with_reducible repeat (first | refine blk_drewN ?_ _ | refine blk_drew ?_ | refine blk_alloc ?_ _)); refine blk_far ?_ NB347_346.out _; (with_reducible repeat (first | refine blk_drewN ?_ _ | refine blk_drew ?_ | refine blk_alloc ?_ _)); refine blk_far ?_ NB347_346.out _; (with_reducible repeat (first | refine blk_drewN ?_ _ | refine blk_drew ?_ | refine blk_alloc ?_ _)); refine blk_far ?_ NB347_346.out _; (with_reducible repeat (first | refine blk_drewN ?_ _ | refine blk_drew ?_ | refine blk_alloc ?_ _)); exact BK347.out⟩
       have n6_ : Aside0 (Below w.heap.size w ((((((((w126.setCell ⟨gb346, 0, none⟩ (.bool t338)).setCell ⟨gb346, 1, none⟩ (.int .i64 t339)).setCell ⟨gb346, 2, none⟩ (.int .i64 t340)).setCell ⟨gb346, 3, none⟩ (.string t341)).setCell ⟨gb347, 0, none⟩ (.bool t342)).setCell ⟨gb347, 1, none⟩ (.int .i64 t343)).setCell ⟨gb347, 2, none⟩ (.int .i64 t344)).setCell ⟨gb347, 3, none⟩ (.string t345))) := ⟨by repeat ((with_reducible first | exact HB.out | refine below_set ?_ GE346.out | refine below_set ?_ GE347.out))⟩
       (try clear BK316)
       (try clear BK317)
       (try clear BK327)
       (try clear BK328)
       (try clear BK346)
       (try clear BK347)
       (try clear HB)
       generalize ((((((((w126.setCell ⟨gb346, 0, none⟩ (.bool t338)).setCell ⟨gb346, 1, none⟩ (.int .i64 t339)).setCell ⟨gb346, 2, none⟩ (.int .i64 t340)).setCell ⟨gb346, 3, none⟩ (.string t341)).setCell ⟨gb347, 0, none⟩ (.bool t342)).setCell ⟨gb347, 1, none⟩ (.int .i64 t343)).setCell ⟨gb347, 2, none⟩ (.int .i64 t344)).setCell ⟨gb347, 3, none⟩ (.string t345)) = w156 at n0_ n1_ n2_ n3_ n4_ n5_ n6_ ⊢
       have BK316 := n0_
       have BK317 := n1_
       have BK327 := n2_
       have BK328 := n3_
       have BK346 := n4_
       have BK347 := n5_
       have HB := n6_
       clear n0_ n1_ n2_ n3_ n4_ n5_ n6_
       replace BK316 := Aside0.mk (blk_drew BK316.out)
       replace BK317 := Aside0.mk (blk_drew BK317.out)
       replace BK327 := Aside0.mk (blk_drew BK327.out)
       replace BK328 := Aside0.mk (blk_drew BK328.out)
       replace BK346 := Aside0.mk (blk_drew BK346.out)
       replace BK347 := Aside0.mk (blk_drew BK347.out)
       replace HB := Aside0.mk (below_drew1 HB.out)
       refine start_ (n := 32) (S := fun w' => w'.cell? ⟨gb347, 0, none⟩ = some (.bool t342) ∧ w'.cell? ⟨gb347, 1, none⟩ = some (.int .i64 t343) ∧ w'.cell? ⟨gb347, 2, none⟩ = some (.int .i64 t344) ∧ w'.cell? ⟨gb347, 3, none⟩ = some (.string t345) ∧ w'.cell? ⟨gb346, 0, none⟩ = some (.bool t338) ∧ w'.cell? ⟨gb346, 1, none⟩ = some (.int .i64 t339) ∧ w'.cell? ⟨gb346, 2, none⟩ = some (.int .i64 t340) ∧ w'.cell? ⟨gb346, 3, none⟩ = some (.string t341) ∧ w'.cell? ⟨gb316, 0, none⟩ = some (.bool t308) ∧ w'.cell? ⟨gb316, 1, none⟩ = some (.int .i64 t309) ∧ w'.cell? ⟨gb316, 2, none⟩ = some (.int .i64 t310) ∧ w'.cell? ⟨gb316, 3, none⟩ = some (.string t311) ∧ w'.cell? ⟨gb317, 0, none⟩ = some (.bool t312) ∧ w'.cell? ⟨gb317, 1, none⟩ = some (.int .i64 t313) ∧ w'.cell? ⟨gb317, 2, none⟩ = some (.int .i64 t314) ∧ w'.cell? ⟨gb317, 3, none⟩ = some (.string t315)) (ds := []) #[false, false, false, false, false, false, false, false, false, false, false, false, false, false, false, false, false, false, false, false, false, false, false, false, false, false, false, false, false, false, false, false] (by kernel_rfl) rfl rfl ⟨b3_ BK347.out 0 rfl, b3_ BK347.out 1 rfl, b3_ BK347.out 2 rfl, b3_ BK347.out 3 rfl, b3_ BK346.out 0 rfl, b3_ BK346.out 1 rfl, b3_ BK346.out 2 rfl, b3_ BK346.out 3 rfl, b3_ BK316.out 0 rfl, b3_ BK316.out 1 rfl, b3_ BK316.out 2 rfl, b3_ BK316.out 3 rfl, b3_ BK317.out 0 rfl, b3_ BK317.out 1 rfl, b3_ BK317.out 2 rfl, b3_ BK317.out 3 rfl⟩ (fun hHeld => ?_); refine with_tabW laws_FnAhead.tab12 laws_FnAhead.bits12 (fun HT_ HW_ => ?_)
       generalize w156.drew = w157 at BK316 BK317 BK327 BK328 BK346 BK347 HB hHeld ⊢
       refine take_ (i := 0) (N := some 80) (v := ?_) (a' := ?_) #[true, false, false, false, false, false, false, false, false, false, false, false, false, false, false, false, false, false, false, false, false, false, false, false, false, false, false, false, false, false, false, false] rfl rfl (take_ofW HT_.out HW_.out (by kernel_rfl)) (fun _ _ _ h => h) (Or.inl ⟨by rfl, ?_⟩) hHeld ?_ ?_
       rotate_left
       ·
        rintro w' ⟨s0, s1, s2, s3, s4, s5, s6, s7, s8, s9, s10, s11, s12, s13, s14, s15⟩
        go_simp
        with_reducible rfl
       rotate_left
       ·
        simp only [Act.put, List.setIfInBounds_toArray, List.set_cons_zero, List.set_cons_succ, i64_w, i32_w]
        rfl
       refine take_ (i := 1) (N := some 81) (v := ?_) (a' := ?_) #[true, true, false, false, false, false, false, false, false, false, false, false, false, false, false, false, false, false, false, false, false, false, false, false, false, false, false, false, false, false, false, false] rfl rfl (take_ofW HT_.out HW_.out (by kernel_rfl)) (fun _ _ _ h => h) (Or.inl ⟨by rfl, ?_⟩) hHeld ?_ ?_
       rotate_left
       ·
        rintro w' ⟨s0, s1, s2, s3, s4, s5, s6, s7, s8, s9, s10, s11, s12, s13, s14, s15⟩
        go_simp
        with_reducible rfl
       rotate_left
       ·
        simp only [Act.put, List.setIfInBounds_toArray, List.set_cons_zero, List.set_cons_succ, i64_w, i32_w]
        rfl
       refine one_ (i := 2) (N := some 82) #[true, true, true, false, false, false, false, false, false, false, false, false, false, false, false, false, false, false, false, false, false, false, false, false, false, false, false, false, false, false, false, false] rfl rfl (one_of HT_.out (by kernel_rfl)) (by decide) (fun K hK => ?_)
       refine goes_ Try.func7 (by kernel_rfl) rfl #[.agg #[.bool t342, .int .i64 t343, .int .i64 t344, .string t345], .agg #[.bool t338, .int .i64 t339, .int .i64 t340, .string t341]] (by rfl) rfl rfl (by (try simp only [List.map_toArray, List.map_cons, List.map_nil]); rfl) ?_
       with_reducible refine (impl_RecAhead.calls kj65 t342 t343 t344 t345 t338 t339 t340 t341 false _ A138.out).mono ?_
       rintro e w158 ⟨rfl, hb⟩
       refine ⟨_, rfl, ?_⟩
       replace BK316 := Aside0.mk (blk_below BK316.out hb)
       replace BK317 := Aside0.mk (blk_below BK317.out hb)
       replace BK327 := Aside0.mk (blk_below BK327.out hb)
       replace BK328 := Aside0.mk (blk_below BK328.out hb)
       replace BK346 := Aside0.mk (blk_below BK346.out hb)
       replace BK347 := Aside0.mk (blk_below BK347.out hb)
       replace HB := Aside0.mk (below_step HB.out hb)
       (try clear hb)
       (try clear hb2)
       (try clear hk)
       (try clear hi)
       refine hK.out _ _ ⟨b3_ BK347.out 0 rfl, b3_ BK347.out 1 rfl, b3_ BK347.out 2 rfl, b3_ BK347.out 3 rfl, b3_ BK346.out 0 rfl, b3_ BK346.out 1 rfl, b3_ BK346.out 2 rfl, b3_ BK346.out 3 rfl, b3_ BK316.out 0 rfl, b3_ BK316.out 1 rfl, b3_ BK316.out 2 rfl, b3_ BK316.out 3 rfl, b3_ BK317.out 0 rfl, b3_ BK317.out 1 rfl, b3_ BK317.out 2 rfl, b3_ BK317.out 3 rfl⟩ (fun hHeld => ?_)
       clear hK K
       refine norm_ (a' := ?_) ?_ ?_
       rotate_left
       ·
        show Act.put _ (some 82) _ = _
        simp only [Act.put, List.setIfInBounds_toArray, List.set_cons_zero, List.set_cons_succ, i64_w, i32_w]
        rfl
       refine pure_ (i := 3) (N := some 83) (v := ?_) (a' := ?_) #[true, true, true, true, false, false, false, false, false, false, false, false, false, false, false, false, false, false, false, false, false, false, false, false, false, false, false, false, false, false, false, false] rfl rfl (any_of HT_.out (by kernel_rfl)) (fun _ _ _ h => h) (Or.inl ⟨by rfl, ?_⟩) ?_ ?_
       rotate_left
       ·
        intro w'
        go_simp
        with_reducible rfl
       rotate_left
       ·
        simp only [Act.put, List.setIfInBounds_toArray, List.set_cons_zero, List.set_cons_succ, i64_w, i32_w]
        rfl
       refine take_ (i := 4) (N := some 84) (v := ?_) (a' := ?_) #[true, true, true, true, true, false, false, false, false, false, false, false, false, false, false, false, false, false, false, false, false, false, false, false, false, false, false, false, false, false, false, false] rfl rfl (take_ofW HT_.out HW_.out (by kernel_rfl)) (fun _ _ _ h => h) (Or.inl ⟨by rfl, ?_⟩) hHeld ?_ ?_
       rotate_left
       ·
        rintro w' ⟨s0, s1, s2, s3, s4, s5, s6, s7, s8, s9, s10, s11, s12, s13, s14, s15⟩
        go_simp
        with_reducible rfl
       rotate_left
       ·
        simp only [Act.put, List.setIfInBounds_toArray, List.set_cons_zero, List.set_cons_succ, i64_w, i32_w]
        rfl
       refine take_ (i := 5) (N := some 85) (v := ?_) (a' := ?_) #[true, true, true, true, true, true, false, false, false, false, false, false, false, false, false, false, false, false, false, false, false, false, false, false, false, false, false, false, false, false, false, false] rfl rfl (take_ofW HT_.out HW_.out (by kernel_rfl)) (fun _ _ _ h => h) (Or.inl ⟨by rfl, ?_⟩) hHeld ?_ ?_
       rotate_left
       ·
        rintro w' ⟨s0, s1, s2, s3, s4, s5, s6, s7, s8, s9, s10, s11, s12, s13, s14, s15⟩
        go_simp
        with_reducible rfl
       rotate_left
       ·
        simp only [Act.put, List.setIfInBounds_toArray, List.set_cons_zero, List.set_cons_succ, i64_w, i32_w]
        rfl
       refine pure_ (i := 6) (N := some 86) (v := ?_) (a' := ?_) #[true, true, true, true, true, true, true, false, false, false, false, false, false, false, false, false, false, false, false, false, false, false, false, false, false, false, false, false, false, false, false, false] rfl rfl (any_of HT_.out (by kernel_rfl)) (fun _ _ _ h => h) (Or.inl ⟨by rfl, ?_⟩) ?_ ?_
       rotate_left
       ·
        intro w'
        go_simp
        with_reducible rfl
       rotate_left
       ·
        simp only [Act.put, List.setIfInBounds_toArray, List.set_cons_zero, List.set_cons_succ, i64_w, i32_w]
        rfl
       refine pure_ (i := 7) (N := some 87) (v := ?_) (a' := ?_) #[true, true, true, true, true, true, true, true, false, false, false, false, false, false, false, false, false, false, false, false, false, false, false, false, false, false, false, false, false, false, false, false] rfl rfl (any_of HT_.out (by kernel_rfl)) (fun _ _ _ h => h) (Or.inl ⟨by rfl, ?_⟩) ?_ ?_
       rotate_left
       ·
        intro w'
        go_simp
        with_reducible rfl
       rotate_left
       ·
        simp only [Act.put, List.setIfInBounds_toArray, List.set_cons_zero, List.set_cons_succ, i64_w, i32_w]
        rfl
       refine take_ (i := 8) (N := some 88) (v := ?_) (a' := ?_) #[true, true, true, true, true, true, true, true, true, false, false, false, false, false, false, false, false, false, false, false, false, false, false, false, false, false, false, false, false, false, false, false] rfl rfl (take_ofW HT_.out HW_.out (by kernel_rfl)) (fun _ _ _ h => h) (Or.inl ⟨by rfl, ?_⟩) hHeld ?_ ?_
       rotate_left
       ·
        rintro w' ⟨s0, s1, s2, s3, s4, s5, s6, s7, s8, s9, s10, s11, s12, s13, s14, s15⟩
        go_simp
        with_reducible rfl
       rotate_left
       ·
        simp only [Act.put, List.setIfInBounds_toArray, List.set_cons_zero, List.set_cons_succ, i64_w, i32_w]
        rfl
       refine take_ (i := 9) (N := some 89) (v := ?_) (a' := ?_) #[true, true, true, true, true, true, true, true, true, true, false, false, false, false, false, false, false, false, false, false, false, false, false, false, false, false, false, false, false, false, false, false] rfl rfl (take_ofW HT_.out HW_.out (by kernel_rfl)) (fun _ _ _ h => h) (Or.inl ⟨by rfl, ?_⟩) hHeld ?_ ?_
       rotate_left
       ·
        rintro w' ⟨s0, s1, s2, s3, s4, s5, s6, s7, s8, s9, s10, s11, s12, s13, s14, s15⟩
        go_simp
        with_reducible rfl
       rotate_left
       ·
        simp only [Act.put, List.setIfInBounds_toArray, List.set_cons_zero, List.set_cons_succ, i64_w, i32_w]
        rfl
       refine pure_ (i := 10) (N := some 90) (v := ?_) (a' := ?_) #[true, true, true, true, true, true, true, true, true, true, true, false, false, false, false, false, false, false, false, false, false, false, false, false, false, false, false, false, false, false, false, false] rfl rfl (any_of HT_.out (by kernel_rfl)) (fun _ _ _ h => h) (Or.inl ⟨by rfl, ?_⟩) ?_ ?_
       rotate_left
       ·
        intro w'
        go_simp
        with_reducible rfl
       rotate_left
       ·
        simp only [Act.put, List.setIfInBounds_toArray, List.set_cons_zero, List.set_cons_succ, i64_w, i32_w]
        rfl
       refine pure_ (i := 11) (N := some 91) (v := ?_) (a' := ?_) #[true, true, true, true, true, true, true, true, true, true, true, true, false, false, false, false, false, false, false, false, false, false, false, false, false, false, false, false, false, false, false, false] rfl rfl (any_of HT_.out (by kernel_rfl)) (fun _ _ _ h => h) (Or.inl ⟨by rfl, ?_⟩) ?_ ?_
       rotate_left
       ·
        intro w'
        go_simp
        with_reducible rfl
       rotate_left
       ·
        simp only [Act.put, List.setIfInBounds_toArray, List.set_cons_zero, List.set_cons_succ, i64_w, i32_w]
        rfl
       refine pure_ (i := 12) (N := some 92) (v := ?_) (a' := ?_) #[true, true, true, true, true, true, true, true, true, true, true, true, true, false, false, false, false, false, false, false, false, false, false, false, false, false, false, false, false, false, false, false] rfl rfl (any_of HT_.out (by kernel_rfl)) (fun _ _ _ h => h) (Or.inl ⟨by rfl, ?_⟩) ?_ ?_
       rotate_left
       ·
        intro w'
        go_simp
        with_reducible rfl
       rotate_left
       ·
        simp only [Act.put, List.setIfInBounds_toArray, List.set_cons_zero, List.set_cons_succ, i64_w, i32_w]
        rfl
       refine pure_ (i := 13) (N := some 93) (v := ?_) (a' := ?_) #[true, true, true, true, true, true, true, true, true, true, true, true, true, true, false, false, false, false, false, false, false, false, false, false, false, false, false, false, false, false, false, false] rfl rfl (any_of HT_.out (by kernel_rfl)) (fun _ _ _ h => h) (Or.inl ⟨by rfl, ?_⟩) ?_ ?_
       rotate_left
       ·
        intro w'
        go_simp
        with_reducible rfl
       rotate_left
       ·
        simp only [Act.put, List.setIfInBounds_toArray, List.set_cons_zero, List.set_cons_succ, i64_w, i32_w]
        rfl
       refine take_ (i := 14) (N := some 94) (v := ?_) (a' := ?_) #[true, true, true, true, true, true, true, true, true, true, true, true, true, true, true, false, false, false, false, false, false, false, false, false, false, false, false, false, false, false, false, false] rfl rfl (take_ofW HT_.out HW_.out (by kernel_rfl)) (fun _ _ _ h => h) (Or.inl ⟨by rfl, ?_⟩) hHeld ?_ ?_
       rotate_left
       ·
        rintro w' ⟨s0, s1, s2, s3, s4, s5, s6, s7, s8, s9, s10, s11, s12, s13, s14, s15⟩
        go_simp
        with_reducible rfl
       rotate_left
       ·
        simp only [Act.put, List.setIfInBounds_toArray, List.set_cons_zero, List.set_cons_succ, i64_w, i32_w]
        rfl
       refine take_ (i := 15) (N := some 95) (v := ?_) (a' := ?_) #[true, true, true, true, true, true, true, true, true, true, true, true, true, true, true, true, false, false, false, false, false, false, false, false, false, false, false, false, false, false, false, false] rfl rfl (take_ofW HT_.out HW_.out (by kernel_rfl)) (fun _ _ _ h => h) (Or.inl ⟨by rfl, ?_⟩) hHeld ?_ ?_
       rotate_left
       ·
        rintro w' ⟨s0, s1, s2, s3, s4, s5, s6, s7, s8, s9, s10, s11, s12, s13, s14, s15⟩
        go_simp
        with_reducible rfl
       rotate_left
       ·
        simp only [Act.put, List.setIfInBounds_toArray, List.set_cons_zero, List.set_cons_succ, i64_w, i32_w]
        rfl
       refine pure_ (i := 16) (N := some 96) (v := ?_) (a' := ?_) #[true, true, true, true, true, true, true, true, true, true, true, true, true, true, true, true, true, false, false, false, false, false, false, false, false, false, false, false, false, false, false, false] rfl rfl (any_of HT_.out (by kernel_rfl)) (fun _ _ _ h => h) (Or.inl ⟨by rfl, ?_⟩) ?_ ?_
       rotate_left
       ·
        intro w'
        go_simp
        with_reducible rfl
       rotate_left
       ·
        simp only [Act.put, List.setIfInBounds_toArray, List.set_cons_zero, List.set_cons_succ, i64_w, i32_w]
        rfl
       refine pure_ (i := 17) (N := some 97) (v := ?_) (a' := ?_) #[true, true, true, true, true, true, true, true, true, true, true, true, true, true, true, true, true, true, false, false, false, false, false, false, false, false, false, false, false, false, false, false] rfl rfl (any_of HT_.out (by kernel_rfl)) (fun _ _ _ h => h) (Or.inl ⟨by rfl, ?_⟩) ?_ ?_
       rotate_left
       ·
        intro w'
        go_simp
        with_reducible rfl
       rotate_left
       ·
        simp only [Act.put, List.setIfInBounds_toArray, List.set_cons_zero, List.set_cons_succ, i64_w, i32_w]
        rfl
       refine pure_ (i := 18) (N := some 98) (v := undef) (a' := ?_) #[true, true, true, true, true, true, true, true, true, true, true, true, true, true, true, true, true, true, true, false, false, false, false, false, false, false, false, false, false, false, false, false] rfl rfl (any_of HT_.out (by kernel_rfl)) (fun _ _ _ h => h) (Or.inr ⟨by rfl, rfl⟩) ?_ ?_
       rotate_left
       ·
        simp only [Act.put, List.setIfInBounds_toArray, List.set_cons_zero, List.set_cons_succ, i64_w, i32_w]
        rfl
       refine pure_ (i := 19) (N := some 99) (v := undef) (a' := ?_) #[true, true, true, true, true, true, true, true, true, true, true, true, true, true, true, true, true, true, true, true, false, false, false, false, false, false, false, false, false, false, false, false] rfl rfl (any_of HT_.out (by kernel_rfl)) (fun _ _ _ h => h) (Or.inr ⟨by rfl, rfl⟩) ?_ ?_
       rotate_left
       ·
        simp only [Act.put, List.setIfInBounds_toArray, List.set_cons_zero, List.set_cons_succ, i64_w, i32_w]
        rfl
       refine pure_ (i := 20) (N := some 100) (v := undef) (a' := ?_) #[true, true, true, true, true, true, true, true, true, true, true, true, true, true, true, true, true, true, true, true, true, false, false, false, false, false, false, false, false, false, false, false] rfl rfl (any_of HT_.out (by kernel_rfl)) (fun _ _ _ h => h) (Or.inr ⟨by rfl, rfl⟩) ?_ ?_
       rotate_left
       ·
        simp only [Act.put, List.setIfInBounds_toArray, List.set_cons_zero, List.set_cons_succ, i64_w, i32_w]
        rfl
       refine pure_ (i := 21) (N := some 101) (v := ?_) (a' := ?_) #[true, true, true, true, true, true, true, true, true, true, true, true, true, true, true, true, true, true, true, true, true, true, false, false, false, false, false, false, false, false, false, false] rfl rfl (any_of HT_.out (by kernel_rfl)) (fun _ _ _ h => h) (Or.inl ⟨by rfl, ?_⟩) ?_ ?_
       rotate_left
       ·
        intro w'
        go_simp
        with_reducible rfl
       rotate_left
       ·
        simp only [Act.put, List.setIfInBounds_toArray, List.set_cons_zero, List.set_cons_succ, i64_w, i32_w]
        rfl
       refine pure_ (i := 22) (N := some 102) (v := ?_) (a' := ?_) #[true, true, true, true, true, true, true, true, true, true, true, true, true, true, true, true, true, true, true, true, true, true, true, false, false, false, false, false, false, false, false, false] rfl rfl (any_of HT_.out (by kernel_rfl)) (fun _ _ _ h => h) (Or.inl ⟨by rfl, ?_⟩) ?_ ?_
       rotate_left
       ·
        intro w'
        go_simp
        with_reducible rfl
       rotate_left
       ·
        simp only [Act.put, List.setIfInBounds_toArray, List.set_cons_zero, List.set_cons_succ, i64_w, i32_w]
        rfl
       refine pure_ (i := 23) (N := some 103) (v := ?_) (a' := ?_) #[true, true, true, true, true, true, true, true, true, true, true, true, true, true, true, true, true, true, true, true, true, true, true, true, false, false, false, false, false, false, false, false] rfl rfl (any_of HT_.out (by kernel_rfl)) (fun _ _ _ h => h) (Or.inl ⟨by rfl, ?_⟩) ?_ ?_
       rotate_left
       ·
        intro w'
        go_simp
        with_reducible rfl
       rotate_left
       ·
        simp only [Act.put, List.setIfInBounds_toArray, List.set_cons_zero, List.set_cons_succ, i64_w, i32_w]
        rfl
       refine take_ (i := 24) (N := some 104) (v := ?_) (a' := ?_) #[true, true, true, true, true, true, true, true, true, true, true, true, true, true, true, true, true, true, true, true, true, true, true, true, true, false, false, false, false, false, false, false] rfl rfl (take_ofW HT_.out HW_.out (by kernel_rfl)) (fun _ _ _ h => h) (Or.inl ⟨by rfl, ?_⟩) hHeld ?_ ?_
       rotate_left
       ·
        rintro w' ⟨s0, s1, s2, s3, s4, s5, s6, s7, s8, s9, s10, s11, s12, s13, s14, s15⟩
        go_simp
        with_reducible rfl
       rotate_left
       ·
        simp only [Act.put, List.setIfInBounds_toArray, List.set_cons_zero, List.set_cons_succ, i64_w, i32_w]
        rfl
       refine take_ (i := 25) (N := some 105) (v := ?_) (a' := ?_) #[true, true, true, true, true, true, true, true, true, true, true, true, true, true, true, true, true, true, true, true, true, true, true, true, true, true, false, false, false, false, false, false] rfl rfl (take_ofW HT_.out HW_.out (by kernel_rfl)) (fun _ _ _ h => h) (Or.inl ⟨by rfl, ?_⟩) hHeld ?_ ?_
       rotate_left
       ·
        rintro w' ⟨s0, s1, s2, s3, s4, s5, s6, s7, s8, s9, s10, s11, s12, s13, s14, s15⟩
        go_simp
        with_reducible rfl
       rotate_left
       ·
        simp only [Act.put, List.setIfInBounds_toArray, List.set_cons_zero, List.set_cons_succ, i64_w, i32_w]
        rfl
       refine pure_ (i := 26) (N := some 106) (v := ?_) (a' := ?_) #[true, true, true, true, true, true, true, true, true, true, true, true, true, true, true, true, true, true, true, true, true, true, true, true, true, true, true, false, false, false, false, false] rfl rfl (any_of HT_.out (by kernel_rfl)) (fun _ _ _ h => h) (Or.inl ⟨by rfl, ?_⟩) ?_ ?_
       rotate_left
       ·
        intro w'
        go_simp
        with_reducible rfl
       rotate_left
       ·
        simp only [Act.put, List.setIfInBounds_toArray, List.set_cons_zero, List.set_cons_succ, i64_w, i32_w]
        rfl
       refine take_ (i := 27) (N := some 107) (v := ?_) (a' := ?_) #[true, true, true, true, true, true, true, true, true, true, true, true, true, true, true, true, true, true, true, true, true, true, true, true, true, true, true, true, false, false, false, false] rfl rfl (take_ofW HT_.out HW_.out (by kernel_rfl)) (fun _ _ _ h => h) (Or.inl ⟨by rfl, ?_⟩) hHeld ?_ ?_
       rotate_left
       ·
        rintro w' ⟨s0, s1, s2, s3, s4, s5, s6, s7, s8, s9, s10, s11, s12, s13, s14, s15⟩
        go_simp
        with_reducible rfl
       rotate_left
       ·
        simp only [Act.put, List.setIfInBounds_toArray, List.set_cons_zero, List.set_cons_succ, i64_w, i32_w]
        rfl
       refine take_ (i := 28) (N := some 108) (v := ?_) (a' := ?_) #[true, true, true, true, true, true, true, true, true, true, true, true, true, true, true, true, true, true, true, true, true, true, true, true, true, true, true, true, true, false, false, false] rfl rfl (take_ofW HT_.out HW_.out (by kernel_rfl)) (fun _ _ _ h => h) (Or.inl ⟨by rfl, ?_⟩) hHeld ?_ ?_
       rotate_left
       ·
        rintro w' ⟨s0, s1, s2, s3, s4, s5, s6, s7, s8, s9, s10, s11, s12, s13, s14, s15⟩
        go_simp
        with_reducible rfl
       rotate_left
       ·
        simp only [Act.put, List.setIfInBounds_toArray, List.set_cons_zero, List.set_cons_succ, i64_w, i32_w]
        rfl
       refine pure_ (i := 29) (N := some 109) (v := ?_) (a' := ?_) #[true, true, true, true, true, true, true, true, true, true, true, true, true, true, true, true, true, true, true, true, true, true, true, true, true, true, true, true, true, true, false, false] rfl rfl (any_of HT_.out (by kernel_rfl)) (fun _ _ _ h => h) (Or.inl ⟨by rfl, ?_⟩) ?_ ?_
       rotate_left
       ·
        intro w'
        go_simp
        with_reducible rfl
       rotate_left
       ·
        simp only [Act.put, List.setIfInBounds_toArray, List.set_cons_zero, List.set_cons_succ, i64_w, i32_w]
        rfl
       refine pure_ (i := 30) (N := some 110) (v := ?_) (a' := ?_) #[true, true, true, true, true, true, true, true, true, true, true, true, true, true, true, true, true, true, true, true, true, true, true, true, true, true, true, true, true, true, true, false] rfl rfl (any_of HT_.out (by kernel_rfl)) (fun _ _ _ h => h) (Or.inl ⟨by rfl, ?_⟩) ?_ ?_
       rotate_left
       ·
        intro w'
        go_simp
        with_reducible rfl
       rotate_left
       ·
        simp only [Act.put, List.setIfInBounds_toArray, List.set_cons_zero, List.set_cons_succ, i64_w, i32_w]
        rfl
       refine pure_ (i := 31) (N := some 111) (v := ?_) (a' := ?_) #[true, true, true, true, true, true, true, true, true, true, true, true, true, true, true, true, true, true, true, true, true, true, true, true, true, true, true, true, true, true, true, true] rfl rfl (any_of HT_.out (by kernel_rfl)) (fun _ _ _ h => h) (Or.inl ⟨by rfl, ?_⟩) ?_ ?_
       rotate_left
       ·
        intro w'
        go_simp
        with_reducible rfl
       rotate_left
       ·
        simp only [Act.put, List.setIfInBounds_toArray, List.set_cons_zero, List.set_cons_succ, i64_w, i32_w]
        rfl
       refine done_ (done_of HT_.out (by kernel_rfl)) ?_
       try go_wp2
       go_meet
       case rel => exact ⟨_, (((t338 == t342 && (t339 == t343 && (t340 == t344 && (t341.toList == t345.toList)))) != (t308 == t312 && (t309 == t313 && (t310 == t314 && (t311.toList == t315.toList)))))), (by rfl), H', ⟨by have := HJ8.out; have := HJ65.out; omega⟩, ⟨by (with_reducible repeat (first | refine blk_drewN ?_ _ | refine blk_drew ?_ | refine blk_alloc ?_ _)); exact BK316.out⟩, ⟨by (with_reducible repeat (first | refine blk_drewN ?_ _ | refine blk_drew ?_ | refine blk_alloc ?_ _)); exact BK317.out⟩, ⟨by (with_reducible repeat (first | refine blk_drewN ?_ _ | refine blk_drew ?_ | refine blk_alloc ?_ _)); exact BK327.out⟩, ⟨by (with_reducible repeat (first | refine blk_drewN ?_ _ | refine blk_drew ?_ | refine blk_alloc ?_ _)); exact BK328.out⟩, ⟨by (with_reducible repeat (first | refine blk_drewN ?_ _ | refine blk_drew ?_ | refine blk_alloc ?_ _)); exact BK346.out⟩, ⟨by (with_reducible repeat (first | refine blk_drewN ?_ _ | refine blk_drew ?_ | refine blk_alloc ?_ _)); exact BK347.out⟩, ⟨by repeat ((with_reducible exact HB.out))⟩⟩
      rw [if_pos c148] at H
      have c148b0 : (!(t342 == t308) || (!(t343 == t309) || (!(t344 == t310) || (!(t345.toList == t311.toList))))) = true := c148
      clear c148
      by_cases c149 : (!(t342 == t312) || (!(t343 == t313) || (!(t344 == t314) || (!(t345.toList == t315.toList))))) = true
      ·
       rw [if_pos c149] at H
       have c149b0 : (!(t342 == t312) || (!(t343 == t313) || (!(t344 == t314) || (!(t345.toList == t315.toList))))) = true := c149
       clear c149
       exact (laws_FnAhead.j2_no H HTRUE_.out).elim
      rw [if_neg c149] at H
      have c149b0 : (!(t342 == t312) || (!(t343 == t313) || (!(t344 == t314) || (!(t345.toList == t315.toList))))) = false := by simpa using c149
      clear c149
      have H' := Aside0.mk H
      clear H
      try go_wp2
      have n0_ : Aside0 (((((((((w126.setCell ⟨gb346, 0, none⟩ (.bool t338)).setCell ⟨gb346, 1, none⟩ (.int .i64 t339)).setCell ⟨gb346, 2, none⟩ (.int .i64 t340)).setCell ⟨gb346, 3, none⟩ (.string t341)).setCell ⟨gb347, 0, none⟩ (.bool t342)).setCell ⟨gb347, 1, none⟩ (.int .i64 t343)).setCell ⟨gb347, 2, none⟩ (.int .i64 t344)).setCell ⟨gb347, 3, none⟩ (.string t345)).heap[gb316]? = some (.cells #[.bool t308, .int .i64 t309, .int .i64 t310, .string t311] 25 (0, 0))) := ⟨by (with_reducible repeat (first | refine blk_drewN ?_ _ | refine blk_drew ?_ | refine blk_alloc ?_ _)); refine blk_far ?_ NB316_347.out _; (with_reducible repeat (first | refine blk_drewN ?_ _ | refine blk_drew ?_ | refine blk_alloc ?_ _)); refine blk_far ?_ NB316_347.out _; (with_reducible repeat (first | refine blk_drewN ?_ _ | refine blk_drew ?_ | refine blk_alloc ?_ _)); refine blk_far ?_ NB316_347.out _; (with_reducible repeat (first | refine blk_drewN ?_ _ | refine blk_drew ?_ | refine blk_alloc ?_ _)); refine blk_far ?_ NB316_347.out _; (with_reducible repeat (first | refine blk_drewN ?_ _ | refine blk_drew ?_ | refine blk_alloc ?_ _)); refine blk_far ?_ NB316_346.out _; (with_reducible repeat (first | refine blk_drewN ?_ _ | refine blk_drew ?_ | refine blk_alloc ?_ _)); refine blk_far ?_ NB316_346.out _; (with_reducible repeat (first | refine blk_drewN ?_ _ | refine blk_drew ?_ | refine blk_alloc ?_ _)); refine blk_far ?_ NB316_346.out _; (with_reducible repeat (first | refine blk_drewN ?_ _ | refine blk_drew ?_ | refine blk_alloc ?_ _)); refine blk_far ?_ NB316_346.out _; (with_reducible repeat (first | refine blk_drewN ?_ _ | refine blk_drew ?_ | refine blk_alloc ?_ _)); exact BK316.out⟩
      have n1_ : Aside0 (((((((((w126.setCell ⟨gb346, 0, none⟩ (.bool t338)).setCell ⟨gb346, 1, none⟩ (.int .i64 t339)).setCell ⟨gb346, 2, none⟩ (.int .i64 t340)).setCell ⟨gb346, 3, none⟩ (.string t341)).setCell ⟨gb347, 0, none⟩ (.bool t342)).setCell ⟨gb347, 1, none⟩ (.int .i64 t343)).setCell ⟨gb347, 2, none⟩ (.int .i64 t344)).setCell ⟨gb347, 3, none⟩ (.string t345)).heap[gb317]? = some (.cells #[.bool t312, .int .i64 t313, .int .i64 t314, .string t315] 25 (0, 0))) := ⟨by (with_reducible repeat (first | refine blk_drewN ?_ _ | refine blk_drew ?_ | refine blk_alloc ?_ _)); refine blk_far ?_ NB317_347.out _; (with_reducible repeat (first | refine blk_drewN ?_ _ | refine blk_drew ?_ | refine blk_alloc ?_ _)); refine blk_far ?_ NB317_347.out _; (with_reducible repeat (first | refine blk_drewN ?_ _ | refine blk_drew ?_ | refine blk_alloc ?_ _)); refine blk_far ?_ NB317_347.out _; (with_reducible repeat (first | refine blk_drewN ?_ _ | refine blk_drew ?_ | refine blk_alloc ?_ _)); refine blk_far ?_ NB317_347.out _; (with_reducible repeat (first | refine blk_drewN ?_ _ | refine blk_drew ?_ | refine blk_alloc ?_ _)); refine blk_far ?_ NB317_346.out _; (with_reducible repeat (first | refine blk_drewN ?_ _ | refine blk_drew ?_ | refine blk_alloc ?_ _)); refine blk_far ?_ NB317_346.out _; (with_reducible repeat (first | refine blk_drewN ?_ _ | refine blk_drew ?_ | refine blk_alloc ?_ _)); refine blk_far ?_ NB317_346.out _; (with_reducible repeat (first | refine blk_drewN ?_ _ | refine blk_drew ?_ | refine blk_alloc ?_ _)); refine blk_far ?_ NB317_346.out _; (with_reducible repeat (first | refine blk_drewN ?_ _ | refine blk_drew ?_ | refine blk_alloc ?_ _)); exact BK317.out⟩
      have n2_ : Aside0 (((((((((w126.setCell ⟨gb346, 0, none⟩ (.bool t338)).setCell ⟨gb346, 1, none⟩ (.int .i64 t339)).setCell ⟨gb346, 2, none⟩ (.int .i64 t340)).setCell ⟨gb346, 3, none⟩ (.string t341)).setCell ⟨gb347, 0, none⟩ (.bool t342)).setCell ⟨gb347, 1, none⟩ (.int .i64 t343)).setCell ⟨gb347, 2, none⟩ (.int .i64 t344)).setCell ⟨gb347, 3, none⟩ (.string t345)).heap[gb327]? = some (.cells #[.bool t319, .int .i64 t320, .int .i64 t321, .string t322] 25 (0, 0))) := ⟨by (with_reducible repeat (first | refine blk_drewN ?_ _ | refine blk_drew ?_ | refine blk_alloc ?_ _)); refine blk_far ?_ NB327_347.out _; (with_reducible repeat (first | refine blk_drewN ?_ _ | refine blk_drew ?_ | refine blk_alloc ?_ _)); refine blk_far ?_ NB327_347.out _; (with_reducible repeat (first | refine blk_drewN ?_ _ | refine blk_drew ?_ | refine blk_alloc ?_ _)); refine blk_far ?_ NB327_347.out _; (with_reducible repeat (first | refine blk_drewN ?_ _ | refine blk_drew ?_ | refine blk_alloc ?_ _)); refine blk_far ?_ NB327_347.out _; (with_reducible repeat (first | refine blk_drewN ?_ _ | refine blk_drew ?_ | refine blk_alloc ?_ _)); refine blk_far ?_ NB327_346.out _; (with_reducible repeat (first | refine blk_drewN ?_ _ | refine blk_drew ?_ | refine blk_alloc ?_ _)); refine blk_far ?_ NB327_346.out _; (with_reducible repeat (first | refine blk_drewN ?_ _ | refine blk_drew ?_ | refine blk_alloc ?_ _)); refine blk_far ?_ NB327_346.out _; (with_reducible repeat (first | refine blk_drewN ?_ _ | refine blk_drew ?_ | refine blk_alloc ?_ _)); refine blk_far ?_ NB327_346.out _; (with_reducible repeat (first | refine blk_drewN ?_ _ | refine blk_drew ?_ | refine blk_alloc ?_ _)); exact BK327.out⟩
      have n3_ : Aside0 (((((((((w126.setCell ⟨gb346, 0, none⟩ (.bool t338)).setCell ⟨gb346, 1, none⟩ (.int .i64 t339)).setCell ⟨gb346, 2, none⟩ (.int .i64 t340)).setCell ⟨gb346, 3, none⟩ (.string t341)).setCell ⟨gb347, 0, none⟩ (.bool t342)).setCell ⟨gb347, 1, none⟩ (.int .i64 t343)).setCell ⟨gb347, 2, none⟩ (.int .i64 t344)).setCell ⟨gb347, 3, none⟩ (.string t345)).heap[gb328]? = some (.cells #[.bool t323, .int .i64 t324, .int .i64 t325, .string t326] 25 (0, 0))) := ⟨by (with_reducible repeat (first | refine blk_drewN ?_ _ | refine blk_drew ?_ | refine blk_alloc ?_ _)); refine blk_far ?_ NB328_347.out _; (with_reducible repeat (first | refine blk_drewN ?_ _ | refine blk_drew ?_ | refine blk_alloc ?_ _)); refine blk_far ?_ NB328_347.out _; (with_reducible repeat (first | refine blk_drewN ?_ _ | refine blk_drew ?_ | refine blk_alloc ?_ _)); refine blk_far ?_ NB328_347.out _; (with_reducible repeat (first | refine blk_drewN ?_ _ | refine blk_drew ?_ | refine blk_alloc ?_ _)); refine blk_far ?_ NB328_347.out _; (with_reducible repeat (first | refine blk_drewN ?_ _ | refine blk_drew ?_ | refine blk_alloc ?_ _)); refine blk_far ?_ NB328_346.out _; (with_reducible repeat (first | refine blk_drewN ?_ _ | refine blk_drew ?_ | refine blk_alloc ?_ _)); refine blk_far ?_ NB328_346.out _; (with_reducible repeat (first | refine blk_drewN ?_ _ | refine blk_drew ?_ | refine blk_alloc ?_ _)); refine blk_far ?_ NB328_346.out _; (with_reducible repeat (first | refine blk_drewN ?_ _ | refine blk_drew ?_ | refine blk_alloc ?_ _)); refine blk_far ?_ NB328_346.out _; (with_reducible repeat (first | refine blk_drewN ?_ _ | refine blk_drew ?_ | refine blk_alloc ?_ _)); exact BK328.out⟩
      have n4_ : Aside0 (((((((((w126.setCell ⟨gb346, 0, none⟩ (.bool t338)).setCell ⟨gb346, 1, none⟩ (.int .i64 t339)).setCell ⟨gb346, 2, none⟩ (.int .i64 t340)).setCell ⟨gb346, 3, none⟩ (.string t341)).setCell ⟨gb347, 0, none⟩ (.bool t342)).setCell ⟨gb347, 1, none⟩ (.int .i64 t343)).setCell ⟨gb347, 2, none⟩ (.int .i64 t344)).setCell ⟨gb347, 3, none⟩ (.string t345)).heap[gb346]? = some (.cells #[.bool t338, .int .i64 t339, .int .i64 t340, .string t341] 25 (0, 0))) := ⟨by (with_reducible repeat (first | refine blk_drewN ?_ _ | refine blk_drew ?_ | refine blk_alloc ?_ _)); refine blk_far ?_ NB346_347.out _; (with_reducible repeat (first | refine blk_drewN ?_ _ | refine blk_drew ?_ | refine blk_alloc ?_ _)); refine blk_far ?_ NB346_347.out _; (with_reducible repeat (first | refine blk_drewN ?_ _ | refine blk_drew ?_ | refine blk_alloc ?_ _)); refine blk_far ?_ NB346_347.out _; (with_reducible repeat (first | refine blk_drewN ?_ _ | refine blk_drew ?_ | refine blk_alloc ?_ _)); refine blk_far ?_ NB346_347.out _; (with_reducible repeat (first | refine blk_drewN ?_ _ | refine blk_drew ?_ | refine blk_alloc ?_ _)); refine blk_put (cs := #[.bool t338, .int .i64 t339, .int .i64 t340, .string (⟨#[]⟩ : ByteArray)]) ?_ 3 _ rfl; (with_reducible repeat (first | refine blk_drewN ?_ _ | refine blk_drew ?_ | refine blk_alloc ?_ _)); refine blk_put (cs := #[.bool t338, .int .i64 t339, .int .i64 0, .string (⟨#[]⟩ : ByteArray)]) ?_ 2 _ rfl; (with_reducible repeat (first | refine blk_drewN ?_ _ | refine blk_drew ?_ | refine blk_alloc ?_ _)); refine blk_put (cs := #[.bool t338, .int .i64 0, .int .i64 0, .string (⟨#[]⟩ : ByteArray)]) ?_ 1 _ rfl; (with_reducible repeat (first | refine blk_drewN ?_ _ | refine blk_drew ?_ | refine blk_alloc ?_ _)); refine blk_put (cs := #[.bool false, .int .i64 0, .int .i64 0, .string (⟨#[]⟩ : ByteArray)]) ?_ 0 _ rfl; (with_reducible repeat (first | refine blk_drewN ?_ _ | refine blk_drew ?_ | refine blk_alloc ?_ _)); exact BK346.out⟩
      have n5_ : Aside0 (((((((((w126.setCell ⟨gb346, 0, none⟩ (.bool t338)).setCell ⟨gb346, 1, none⟩ (.int .i64 t339)).setCell ⟨gb346, 2, none⟩ (.int .i64 t340)).setCell ⟨gb346, 3, none⟩ (.string t341)).setCell ⟨gb347, 0, none⟩ (.bool t342)).setCell ⟨gb347, 1, none⟩ (.int .i64 t343)).setCell ⟨gb347, 2, none⟩ (.int .i64 t344)).setCell ⟨gb347, 3, none⟩ (.string t345)).heap[gb347]? = some (.cells #[.bool t342, .int .i64 t343, .int .i64 t344, .string t345] 25 (0, 0))) := ⟨by (with_reducible repeat (first | refine blk_drewN ?_ _ | refine blk_drew ?_ | refine blk_alloc ?_ _)); refine blk_put (cs := #[.bool t342, .int .i64 t343, .int .i64 t344, .string (⟨#[]⟩ : ByteArray)]) ?_ 3 _ rfl; (with_reducible repeat (first | refine blk_drewN ?_ _ | refine blk_drew ?_ | refine blk_alloc ?_ _)); refine blk_put (cs := #[.bool t342, .int .i64 t343, .int .i64 0, .string (⟨#[]⟩ : ByteArray)]) ?_ 2 _ rfl; (with_reducible repeat (first | refine blk_drewN ?_ _ | refine blk_drew ?_ | refine blk_alloc ?_ _)); refine blk_put (cs := #[.bool t342, .int .i64 0, .int .i64 0, .string (⟨#[]⟩ : ByteArray)]) ?_ 1 _ rfl; (with_reducible repeat (first | refine blk_drewN ?_ _ | refine blk_drew ?_ | refine blk_alloc ?_ _)); refine blk_put (cs := #[.bool false, .int .i64 0, .int .i64 0, .string (⟨#[]⟩ : ByteArray)]) ?_ 0 _ rfl; (with_reducible repeat (first | refine blk_drewN ?_ _ | refine blk_drew ?_ | refine blk_alloc ?_ _)); refine blk_far ?_ NB347_346.out _; (with_reducible repeat (first | refine blk_drewN ?_ _ | refine blk_drew ?_ | refine blk_alloc ?_ _)); refine blk_far ?_ NB347_346.out _; (with_reducible repeat (first | refine blk_drewN ?_ _ | refine blk_drew ?_ | refine blk_alloc ?_ _)); refine blk_far ?_ NB347_346.out _; (with_reducible repeat (first | refine blk_drewN ?_ _ | refine blk_drew ?_ | refine blk_alloc ?_ _)); refine blk_far ?_ NB347_346.out _; (with_reducible repeat (first | refine blk_drewN ?_ _ | refine blk_drew ?_ | refine blk_alloc ?_ _)); exact BK347.out⟩
      have n6_ : Aside0 (Below w.heap.size w ((((((((w126.setCell ⟨gb346, 0, none⟩ (.bool t338)).setCell ⟨gb346, 1, none⟩ (.int .i64 t339)).setCell ⟨gb346, 2, none⟩ (.int .i64 t340)).setCell ⟨gb346, 3, none⟩ (.string t341)).setCell ⟨gb347, 0, none⟩ (.bool t342)).setCell ⟨gb347, 1, none⟩ (.int .i64 t343)).setCell ⟨gb347, 2, none⟩ (.int .i64 t344)).setCell ⟨gb347, 3, none⟩ (.string t345))) := ⟨by repeat ((with_reducible first | exact HB.out | refine below_set ?_ GE346.out | refine below_set ?_ GE347.out))⟩
      (try clear BK316)
      (try clear BK317)
      (try clear BK327)
      (try clear BK328)
      (try clear BK346)
      (try clear BK347)
      (try clear HB)
      generalize ((((((((w126.setCell ⟨gb346, 0, none⟩ (.bool t338)).setCell ⟨gb346, 1, none⟩ (.int .i64 t339)).setCell ⟨gb346, 2, none⟩ (.int .i64 t340)).setCell ⟨gb346, 3, none⟩ (.string t341)).setCell ⟨gb347, 0, none⟩ (.bool t342)).setCell ⟨gb347, 1, none⟩ (.int .i64 t343)).setCell ⟨gb347, 2, none⟩ (.int .i64 t344)).setCell ⟨gb347, 3, none⟩ (.string t345)) = w153 at n0_ n1_ n2_ n3_ n4_ n5_ n6_ ⊢
      have BK316 := n0_
      have BK317 := n1_
      have BK327 := n2_
      have BK328 := n3_
      have BK346 := n4_
      have BK347 := n5_
      have HB := n6_
      clear n0_ n1_ n2_ n3_ n4_ n5_ n6_
      replace BK316 := Aside0.mk (blk_drew BK316.out)
      replace BK317 := Aside0.mk (blk_drew BK317.out)
      replace BK327 := Aside0.mk (blk_drew BK327.out)
      replace BK328 := Aside0.mk (blk_drew BK328.out)
      replace BK346 := Aside0.mk (blk_drew BK346.out)
      replace BK347 := Aside0.mk (blk_drew BK347.out)
      replace HB := Aside0.mk (below_drew1 HB.out)
      refine start_ (n := 32) (S := fun w' => w'.cell? ⟨gb347, 0, none⟩ = some (.bool t342) ∧ w'.cell? ⟨gb347, 1, none⟩ = some (.int .i64 t343) ∧ w'.cell? ⟨gb347, 2, none⟩ = some (.int .i64 t344) ∧ w'.cell? ⟨gb347, 3, none⟩ = some (.string t345) ∧ w'.cell? ⟨gb346, 0, none⟩ = some (.bool t338) ∧ w'.cell? ⟨gb346, 1, none⟩ = some (.int .i64 t339) ∧ w'.cell? ⟨gb346, 2, none⟩ = some (.int .i64 t340) ∧ w'.cell? ⟨gb346, 3, none⟩ = some (.string t341) ∧ w'.cell? ⟨gb316, 0, none⟩ = some (.bool t308) ∧ w'.cell? ⟨gb316, 1, none⟩ = some (.int .i64 t309) ∧ w'.cell? ⟨gb316, 2, none⟩ = some (.int .i64 t310) ∧ w'.cell? ⟨gb316, 3, none⟩ = some (.string t311) ∧ w'.cell? ⟨gb317, 0, none⟩ = some (.bool t312) ∧ w'.cell? ⟨gb317, 1, none⟩ = some (.int .i64 t313) ∧ w'.cell? ⟨gb317, 2, none⟩ = some (.int .i64 t314) ∧ w'.cell? ⟨gb317, 3, none⟩ = some (.string t315)) (ds := []) #[false, false, false, false, false, false, false, false, false, false, false, false, false, false, false, false, false, false, false, false, false, false, false, false, false, false, false, false, false, false, false, false] (by kernel_rfl) rfl rfl ⟨b3_ BK347.out 0 rfl, b3_ BK347.out 1 rfl, b3_ BK347.out 2 rfl, b3_ BK347.out 3 rfl, b3_ BK346.out 0 rfl, b3_ BK346.out 1 rfl, b3_ BK346.out 2 rfl, b3_ BK346.out 3 rfl, b3_ BK316.out 0 rfl, b3_ BK316.out 1 rfl, b3_ BK316.out 2 rfl, b3_ BK316.out 3 rfl, b3_ BK317.out 0 rfl, b3_ BK317.out 1 rfl, b3_ BK317.out 2 rfl, b3_ BK317.out 3 rfl⟩ (fun hHeld => ?_); refine with_tabW laws_FnAhead.tab12 laws_FnAhead.bits12 (fun HT_ HW_ => ?_)
      generalize w153.drew = w154 at BK316 BK317 BK327 BK328 BK346 BK347 HB hHeld ⊢
      refine take_ (i := 0) (N := some 80) (v := ?_) (a' := ?_) #[true, false, false, false, false, false, false, false, false, false, false, false, false, false, false, false, false, false, false, false, false, false, false, false, false, false, false, false, false, false, false, false] rfl rfl (take_ofW HT_.out HW_.out (by kernel_rfl)) (fun _ _ _ h => h) (Or.inl ⟨by rfl, ?_⟩) hHeld ?_ ?_
      rotate_left
      ·
       rintro w' ⟨s0, s1, s2, s3, s4, s5, s6, s7, s8, s9, s10, s11, s12, s13, s14, s15⟩
       go_simp
       with_reducible rfl
      rotate_left
      ·
       simp only [Act.put, List.setIfInBounds_toArray, List.set_cons_zero, List.set_cons_succ, i64_w, i32_w]
       rfl
      refine take_ (i := 1) (N := some 81) (v := ?_) (a' := ?_) #[true, true, false, false, false, false, false, false, false, false, false, false, false, false, false, false, false, false, false, false, false, false, false, false, false, false, false, false, false, false, false, false] rfl rfl (take_ofW HT_.out HW_.out (by kernel_rfl)) (fun _ _ _ h => h) (Or.inl ⟨by rfl, ?_⟩) hHeld ?_ ?_
      rotate_left
      ·
       rintro w' ⟨s0, s1, s2, s3, s4, s5, s6, s7, s8, s9, s10, s11, s12, s13, s14, s15⟩
       go_simp
       with_reducible rfl
      rotate_left
      ·
       simp only [Act.put, List.setIfInBounds_toArray, List.set_cons_zero, List.set_cons_succ, i64_w, i32_w]
       rfl
      refine one_ (i := 2) (N := some 82) #[true, true, true, false, false, false, false, false, false, false, false, false, false, false, false, false, false, false, false, false, false, false, false, false, false, false, false, false, false, false, false, false] rfl rfl (one_of HT_.out (by kernel_rfl)) (by decide) (fun K hK => ?_)
      refine goes_ Try.func7 (by kernel_rfl) rfl #[.agg #[.bool t342, .int .i64 t343, .int .i64 t344, .string t345], .agg #[.bool t338, .int .i64 t339, .int .i64 t340, .string t341]] (by rfl) rfl rfl (by (try simp only [List.map_toArray, List.map_cons, List.map_nil]); rfl) ?_
      with_reducible refine (impl_RecAhead.calls kj65 t342 t343 t344 t345 t338 t339 t340 t341 false _ A138.out).mono ?_
      rintro e w155 ⟨rfl, hb⟩
      refine ⟨_, rfl, ?_⟩
      replace BK316 := Aside0.mk (blk_below BK316.out hb)
      replace BK317 := Aside0.mk (blk_below BK317.out hb)
      replace BK327 := Aside0.mk (blk_below BK327.out hb)
      replace BK328 := Aside0.mk (blk_below BK328.out hb)
      replace BK346 := Aside0.mk (blk_below BK346.out hb)
      replace BK347 := Aside0.mk (blk_below BK347.out hb)
      replace HB := Aside0.mk (below_step HB.out hb)
      (try clear hb)
      (try clear hb2)
      (try clear hk)
      (try clear hi)
      refine hK.out _ _ ⟨b3_ BK347.out 0 rfl, b3_ BK347.out 1 rfl, b3_ BK347.out 2 rfl, b3_ BK347.out 3 rfl, b3_ BK346.out 0 rfl, b3_ BK346.out 1 rfl, b3_ BK346.out 2 rfl, b3_ BK346.out 3 rfl, b3_ BK316.out 0 rfl, b3_ BK316.out 1 rfl, b3_ BK316.out 2 rfl, b3_ BK316.out 3 rfl, b3_ BK317.out 0 rfl, b3_ BK317.out 1 rfl, b3_ BK317.out 2 rfl, b3_ BK317.out 3 rfl⟩ (fun hHeld => ?_)
      clear hK K
      refine norm_ (a' := ?_) ?_ ?_
      rotate_left
      ·
       show Act.put _ (some 82) _ = _
       simp only [Act.put, List.setIfInBounds_toArray, List.set_cons_zero, List.set_cons_succ, i64_w, i32_w]
       rfl
      refine pure_ (i := 3) (N := some 83) (v := ?_) (a' := ?_) #[true, true, true, true, false, false, false, false, false, false, false, false, false, false, false, false, false, false, false, false, false, false, false, false, false, false, false, false, false, false, false, false] rfl rfl (any_of HT_.out (by kernel_rfl)) (fun _ _ _ h => h) (Or.inl ⟨by rfl, ?_⟩) ?_ ?_
      rotate_left
      ·
       intro w'
       go_simp
       with_reducible rfl
      rotate_left
      ·
       simp only [Act.put, List.setIfInBounds_toArray, List.set_cons_zero, List.set_cons_succ, i64_w, i32_w]
       rfl
      refine take_ (i := 4) (N := some 84) (v := ?_) (a' := ?_) #[true, true, true, true, true, false, false, false, false, false, false, false, false, false, false, false, false, false, false, false, false, false, false, false, false, false, false, false, false, false, false, false] rfl rfl (take_ofW HT_.out HW_.out (by kernel_rfl)) (fun _ _ _ h => h) (Or.inl ⟨by rfl, ?_⟩) hHeld ?_ ?_
      rotate_left
      ·
       rintro w' ⟨s0, s1, s2, s3, s4, s5, s6, s7, s8, s9, s10, s11, s12, s13, s14, s15⟩
       go_simp
       with_reducible rfl
      rotate_left
      ·
       simp only [Act.put, List.setIfInBounds_toArray, List.set_cons_zero, List.set_cons_succ, i64_w, i32_w]
       rfl
      refine take_ (i := 5) (N := some 85) (v := ?_) (a' := ?_) #[true, true, true, true, true, true, false, false, false, false, false, false, false, false, false, false, false, false, false, false, false, false, false, false, false, false, false, false, false, false, false, false] rfl rfl (take_ofW HT_.out HW_.out (by kernel_rfl)) (fun _ _ _ h => h) (Or.inl ⟨by rfl, ?_⟩) hHeld ?_ ?_
      rotate_left
      ·
       rintro w' ⟨s0, s1, s2, s3, s4, s5, s6, s7, s8, s9, s10, s11, s12, s13, s14, s15⟩
       go_simp
       with_reducible rfl
      rotate_left
      ·
       simp only [Act.put, List.setIfInBounds_toArray, List.set_cons_zero, List.set_cons_succ, i64_w, i32_w]
       rfl
      refine pure_ (i := 6) (N := some 86) (v := ?_) (a' := ?_) #[true, true, true, true, true, true, true, false, false, false, false, false, false, false, false, false, false, false, false, false, false, false, false, false, false, false, false, false, false, false, false, false] rfl rfl (any_of HT_.out (by kernel_rfl)) (fun _ _ _ h => h) (Or.inl ⟨by rfl, ?_⟩) ?_ ?_
      rotate_left
      ·
       intro w'
       go_simp
       with_reducible rfl
      rotate_left
      ·
       simp only [Act.put, List.setIfInBounds_toArray, List.set_cons_zero, List.set_cons_succ, i64_w, i32_w]
       rfl
      refine pure_ (i := 7) (N := some 87) (v := ?_) (a' := ?_) #[true, true, true, true, true, true, true, true, false, false, false, false, false, false, false, false, false, false, false, false, false, false, false, false, false, false, false, false, false, false, false, false] rfl rfl (any_of HT_.out (by kernel_rfl)) (fun _ _ _ h => h) (Or.inl ⟨by rfl, ?_⟩) ?_ ?_
      rotate_left
      ·
       intro w'
       go_simp
       with_reducible rfl
      rotate_left
      ·
       simp only [Act.put, List.setIfInBounds_toArray, List.set_cons_zero, List.set_cons_succ, i64_w, i32_w]
       rfl
      refine take_ (i := 8) (N := some 88) (v := ?_) (a' := ?_) #[true, true, true, true, true, true, true, true, true, false, false, false, false, false, false, false, false, false, false, false, false, false, false, false, false, false, false, false, false, false, false, false] rfl rfl (take_ofW HT_.out HW_.out (by kernel_rfl)) (fun _ _ _ h => h) (Or.inl ⟨by rfl, ?_⟩) hHeld ?_ ?_
      rotate_left
      ·
       rintro w' ⟨s0, s1, s2, s3, s4, s5, s6, s7, s8, s9, s10, s11, s12, s13, s14, s15⟩
       go_simp
       with_reducible rfl
      rotate_left
      ·
       simp only [Act.put, List.setIfInBounds_toArray, List.set_cons_zero, List.set_cons_succ, i64_w, i32_w]
       rfl
      refine take_ (i := 9) (N := some 89) (v := ?_) (a' := ?_) #[true, true, true, true, true, true, true, true, true, true, false, false, false, false, false, false, false, false, false, false, false, false, false, false, false, false, false, false, false, false, false, false] rfl rfl (take_ofW HT_.out HW_.out (by kernel_rfl)) (fun _ _ _ h => h) (Or.inl ⟨by rfl, ?_⟩) hHeld ?_ ?_
      rotate_left
      ·
       rintro w' ⟨s0, s1, s2, s3, s4, s5, s6, s7, s8, s9, s10, s11, s12, s13, s14, s15⟩
       go_simp
       with_reducible rfl
      rotate_left
      ·
       simp only [Act.put, List.setIfInBounds_toArray, List.set_cons_zero, List.set_cons_succ, i64_w, i32_w]
       rfl
      refine pure_ (i := 10) (N := some 90) (v := ?_) (a' := ?_) #[true, true, true, true, true, true, true, true, true, true, true, false, false, false, false, false, false, false, false, false, false, false, false, false, false, false, false, false, false, false, false, false] rfl rfl (any_of HT_.out (by kernel_rfl)) (fun _ _ _ h => h) (Or.inl ⟨by rfl, ?_⟩) ?_ ?_
      rotate_left
      ·
       intro w'
       go_simp
       with_reducible rfl
      rotate_left
      ·
       simp only [Act.put, List.setIfInBounds_toArray, List.set_cons_zero, List.set_cons_succ, i64_w, i32_w]
       rfl
      refine pure_ (i := 11) (N := some 91) (v := ?_) (a' := ?_) #[true, true, true, true, true, true, true, true, true, true, true, true, false, false, false, false, false, false, false, false, false, false, false, false, false, false, false, false, false, false, false, false] rfl rfl (any_of HT_.out (by kernel_rfl)) (fun _ _ _ h => h) (Or.inl ⟨by rfl, ?_⟩) ?_ ?_
      rotate_left
      ·
       intro w'
       go_simp
       with_reducible rfl
      rotate_left
      ·
       simp only [Act.put, List.setIfInBounds_toArray, List.set_cons_zero, List.set_cons_succ, i64_w, i32_w]
       rfl
      refine pure_ (i := 12) (N := some 92) (v := ?_) (a' := ?_) #[true, true, true, true, true, true, true, true, true, true, true, true, true, false, false, false, false, false, false, false, false, false, false, false, false, false, false, false, false, false, false, false] rfl rfl (any_of HT_.out (by kernel_rfl)) (fun _ _ _ h => h) (Or.inl ⟨by rfl, ?_⟩) ?_ ?_
      rotate_left
      ·
       intro w'
       go_simp
       with_reducible rfl
      rotate_left
      ·
       simp only [Act.put, List.setIfInBounds_toArray, List.set_cons_zero, List.set_cons_succ, i64_w, i32_w]
       rfl
      refine pure_ (i := 13) (N := some 93) (v := ?_) (a' := ?_) #[true, true, true, true, true, true, true, true, true, true, true, true, true, true, false, false, false, false, false, false, false, false, false, false, false, false, false, false, false, false, false, false] rfl rfl (any_of HT_.out (by kernel_rfl)) (fun _ _ _ h => h) (Or.inl ⟨by rfl, ?_⟩) ?_ ?_
      rotate_left
      ·
       intro w'
       go_simp
       with_reducible rfl
      rotate_left
      ·
       simp only [Act.put, List.setIfInBounds_toArray, List.set_cons_zero, List.set_cons_succ, i64_w, i32_w]
       rfl
      refine take_ (i := 14) (N := some 94) (v := ?_) (a' := ?_) #[true, true, true, true, true, true, true, true, true, true, true, true, true, true, true, false, false, false, false, false, false, false, false, false, false, false, false, false, false, false, false, false] rfl rfl (take_ofW HT_.out HW_.out (by kernel_rfl)) (fun _ _ _ h => h) (Or.inl ⟨by rfl, ?_⟩) hHeld ?_ ?_
      rotate_left
      ·
       rintro w' ⟨s0, s1, s2, s3, s4, s5, s6, s7, s8, s9, s10, s11, s12, s13, s14, s15⟩
       go_simp
       with_reducible rfl
      rotate_left
      ·
       simp only [Act.put, List.setIfInBounds_toArray, List.set_cons_zero, List.set_cons_succ, i64_w, i32_w]
       rfl
      refine take_ (i := 15) (N := some 95) (v := ?_) (a' := ?_) #[true, true, true, true, true, true, true, true, true, true, true, true, true, true, true, true, false, false, false, false, false, false, false, false, false, false, false, false, false, false, false, false] rfl rfl (take_ofW HT_.out HW_.out (by kernel_rfl)) (fun _ _ _ h => h) (Or.inl ⟨by rfl, ?_⟩) hHeld ?_ ?_
      rotate_left
      ·
       rintro w' ⟨s0, s1, s2, s3, s4, s5, s6, s7, s8, s9, s10, s11, s12, s13, s14, s15⟩
       go_simp
       with_reducible rfl
      rotate_left
      ·
       simp only [Act.put, List.setIfInBounds_toArray, List.set_cons_zero, List.set_cons_succ, i64_w, i32_w]
       rfl
      refine pure_ (i := 16) (N := some 96) (v := ?_) (a' := ?_) #[true, true, true, true, true, true, true, true, true, true, true, true, true, true, true, true, true, false, false, false, false, false, false, false, false, false, false, false, false, false, false, false] rfl rfl (any_of HT_.out (by kernel_rfl)) (fun _ _ _ h => h) (Or.inl ⟨by rfl, ?_⟩) ?_ ?_
      rotate_left
      ·
       intro w'
       go_simp
       with_reducible rfl
      rotate_left
      ·
       simp only [Act.put, List.setIfInBounds_toArray, List.set_cons_zero, List.set_cons_succ, i64_w, i32_w]
       rfl
      refine pure_ (i := 17) (N := some 97) (v := ?_) (a' := ?_) #[true, true, true, true, true, true, true, true, true, true, true, true, true, true, true, true, true, true, false, false, false, false, false, false, false, false, false, false, false, false, false, false] rfl rfl (any_of HT_.out (by kernel_rfl)) (fun _ _ _ h => h) (Or.inl ⟨by rfl, ?_⟩) ?_ ?_
      rotate_left
      ·
       intro w'
       go_simp
       with_reducible rfl
      rotate_left
      ·
       simp only [Act.put, List.setIfInBounds_toArray, List.set_cons_zero, List.set_cons_succ, i64_w, i32_w]
       rfl
      refine take_ (i := 18) (N := some 98) (v := ?_) (a' := ?_) #[true, true, true, true, true, true, true, true, true, true, true, true, true, true, true, true, true, true, true, false, false, false, false, false, false, false, false, false, false, false, false, false] rfl rfl (take_ofW HT_.out HW_.out (by kernel_rfl)) (fun _ _ _ h => h) (Or.inl ⟨by rfl, ?_⟩) hHeld ?_ ?_
      rotate_left
      ·
       rintro w' ⟨s0, s1, s2, s3, s4, s5, s6, s7, s8, s9, s10, s11, s12, s13, s14, s15⟩
       go_simp
       with_reducible rfl
      rotate_left
      ·
       simp only [Act.put, List.setIfInBounds_toArray, List.set_cons_zero, List.set_cons_succ, i64_w, i32_w]
       rfl
      refine take_ (i := 19) (N := some 99) (v := ?_) (a' := ?_) #[true, true, true, true, true, true, true, true, true, true, true, true, true, true, true, true, true, true, true, true, false, false, false, false, false, false, false, false, false, false, false, false] rfl rfl (take_ofW HT_.out HW_.out (by kernel_rfl)) (fun _ _ _ h => h) (Or.inl ⟨by rfl, ?_⟩) hHeld ?_ ?_
      rotate_left
      ·
       rintro w' ⟨s0, s1, s2, s3, s4, s5, s6, s7, s8, s9, s10, s11, s12, s13, s14, s15⟩
       go_simp
       with_reducible rfl
      rotate_left
      ·
       simp only [Act.put, List.setIfInBounds_toArray, List.set_cons_zero, List.set_cons_succ, i64_w, i32_w]
       rfl
      refine pure_ (i := 20) (N := some 100) (v := ?_) (a' := ?_) #[true, true, true, true, true, true, true, true, true, true, true, true, true, true, true, true, true, true, true, true, true, false, false, false, false, false, false, false, false, false, false, false] rfl rfl (any_of HT_.out (by kernel_rfl)) (fun _ _ _ h => h) (Or.inl ⟨by rfl, ?_⟩) ?_ ?_
      rotate_left
      ·
       intro w'
       go_simp
       with_reducible rfl
      rotate_left
      ·
       simp only [Act.put, List.setIfInBounds_toArray, List.set_cons_zero, List.set_cons_succ, i64_w, i32_w]
       rfl
      refine pure_ (i := 21) (N := some 101) (v := ?_) (a' := ?_) #[true, true, true, true, true, true, true, true, true, true, true, true, true, true, true, true, true, true, true, true, true, true, false, false, false, false, false, false, false, false, false, false] rfl rfl (any_of HT_.out (by kernel_rfl)) (fun _ _ _ h => h) (Or.inl ⟨by rfl, ?_⟩) ?_ ?_
      rotate_left
      ·
       intro w'
       go_simp
       with_reducible rfl
      rotate_left
      ·
       simp only [Act.put, List.setIfInBounds_toArray, List.set_cons_zero, List.set_cons_succ, i64_w, i32_w]
       rfl
      refine pure_ (i := 22) (N := some 102) (v := ?_) (a' := ?_) #[true, true, true, true, true, true, true, true, true, true, true, true, true, true, true, true, true, true, true, true, true, true, true, false, false, false, false, false, false, false, false, false] rfl rfl (any_of HT_.out (by kernel_rfl)) (fun _ _ _ h => h) (Or.inl ⟨by rfl, ?_⟩) ?_ ?_
      rotate_left
      ·
       intro w'
       go_simp
       with_reducible rfl
      rotate_left
      ·
       simp only [Act.put, List.setIfInBounds_toArray, List.set_cons_zero, List.set_cons_succ, i64_w, i32_w]
       rfl
      refine pure_ (i := 23) (N := some 103) (v := ?_) (a' := ?_) #[true, true, true, true, true, true, true, true, true, true, true, true, true, true, true, true, true, true, true, true, true, true, true, true, false, false, false, false, false, false, false, false] rfl rfl (any_of HT_.out (by kernel_rfl)) (fun _ _ _ h => h) (Or.inl ⟨by rfl, ?_⟩) ?_ ?_
      rotate_left
      ·
       intro w'
       go_simp
       with_reducible rfl
      rotate_left
      ·
       simp only [Act.put, List.setIfInBounds_toArray, List.set_cons_zero, List.set_cons_succ, i64_w, i32_w]
       rfl
      refine take_ (i := 24) (N := some 104) (v := ?_) (a' := ?_) #[true, true, true, true, true, true, true, true, true, true, true, true, true, true, true, true, true, true, true, true, true, true, true, true, true, false, false, false, false, false, false, false] rfl rfl (take_ofW HT_.out HW_.out (by kernel_rfl)) (fun _ _ _ h => h) (Or.inl ⟨by rfl, ?_⟩) hHeld ?_ ?_
      rotate_left
      ·
       rintro w' ⟨s0, s1, s2, s3, s4, s5, s6, s7, s8, s9, s10, s11, s12, s13, s14, s15⟩
       go_simp
       with_reducible rfl
      rotate_left
      ·
       simp only [Act.put, List.setIfInBounds_toArray, List.set_cons_zero, List.set_cons_succ, i64_w, i32_w]
       rfl
      refine take_ (i := 25) (N := some 105) (v := ?_) (a' := ?_) #[true, true, true, true, true, true, true, true, true, true, true, true, true, true, true, true, true, true, true, true, true, true, true, true, true, true, false, false, false, false, false, false] rfl rfl (take_ofW HT_.out HW_.out (by kernel_rfl)) (fun _ _ _ h => h) (Or.inl ⟨by rfl, ?_⟩) hHeld ?_ ?_
      rotate_left
      ·
       rintro w' ⟨s0, s1, s2, s3, s4, s5, s6, s7, s8, s9, s10, s11, s12, s13, s14, s15⟩
       go_simp
       with_reducible rfl
      rotate_left
      ·
       simp only [Act.put, List.setIfInBounds_toArray, List.set_cons_zero, List.set_cons_succ, i64_w, i32_w]
       rfl
      refine pure_ (i := 26) (N := some 106) (v := ?_) (a' := ?_) #[true, true, true, true, true, true, true, true, true, true, true, true, true, true, true, true, true, true, true, true, true, true, true, true, true, true, true, false, false, false, false, false] rfl rfl (any_of HT_.out (by kernel_rfl)) (fun _ _ _ h => h) (Or.inl ⟨by rfl, ?_⟩) ?_ ?_
      rotate_left
      ·
       intro w'
       go_simp
       with_reducible rfl
      rotate_left
      ·
       simp only [Act.put, List.setIfInBounds_toArray, List.set_cons_zero, List.set_cons_succ, i64_w, i32_w]
       rfl
      refine take_ (i := 27) (N := some 107) (v := ?_) (a' := ?_) #[true, true, true, true, true, true, true, true, true, true, true, true, true, true, true, true, true, true, true, true, true, true, true, true, true, true, true, true, false, false, false, false] rfl rfl (take_ofW HT_.out HW_.out (by kernel_rfl)) (fun _ _ _ h => h) (Or.inl ⟨by rfl, ?_⟩) hHeld ?_ ?_
      rotate_left
      ·
       rintro w' ⟨s0, s1, s2, s3, s4, s5, s6, s7, s8, s9, s10, s11, s12, s13, s14, s15⟩
       go_simp
       with_reducible rfl
      rotate_left
      ·
       simp only [Act.put, List.setIfInBounds_toArray, List.set_cons_zero, List.set_cons_succ, i64_w, i32_w]
       rfl
      refine take_ (i := 28) (N := some 108) (v := ?_) (a' := ?_) #[true, true, true, true, true, true, true, true, true, true, true, true, true, true, true, true, true, true, true, true, true, true, true, true, true, true, true, true, true, false, false, false] rfl rfl (take_ofW HT_.out HW_.out (by kernel_rfl)) (fun _ _ _ h => h) (Or.inl ⟨by rfl, ?_⟩) hHeld ?_ ?_
      rotate_left
      ·
       rintro w' ⟨s0, s1, s2, s3, s4, s5, s6, s7, s8, s9, s10, s11, s12, s13, s14, s15⟩
       go_simp
       with_reducible rfl
      rotate_left
      ·
       simp only [Act.put, List.setIfInBounds_toArray, List.set_cons_zero, List.set_cons_succ, i64_w, i32_w]
       rfl
      refine pure_ (i := 29) (N := some 109) (v := ?_) (a' := ?_) #[true, true, true, true, true, true, true, true, true, true, true, true, true, true, true, true, true, true, true, true, true, true, true, true, true, true, true, true, true, true, false, false] rfl rfl (any_of HT_.out (by kernel_rfl)) (fun _ _ _ h => h) (Or.inl ⟨by rfl, ?_⟩) ?_ ?_
      rotate_left
      ·
       intro w'
       go_simp
       with_reducible rfl
      rotate_left
      ·
       simp only [Act.put, List.setIfInBounds_toArray, List.set_cons_zero, List.set_cons_succ, i64_w, i32_w]
       rfl
      refine pure_ (i := 30) (N := some 110) (v := ?_) (a' := ?_) #[true, true, true, true, true, true, true, true, true, true, true, true, true, true, true, true, true, true, true, true, true, true, true, true, true, true, true, true, true, true, true, false] rfl rfl (any_of HT_.out (by kernel_rfl)) (fun _ _ _ h => h) (Or.inl ⟨by rfl, ?_⟩) ?_ ?_
      rotate_left
      ·
       intro w'
       go_simp
       with_reducible rfl
      rotate_left
      ·
       simp only [Act.put, List.setIfInBounds_toArray, List.set_cons_zero, List.set_cons_succ, i64_w, i32_w]
       rfl
      refine pure_ (i := 31) (N := some 111) (v := ?_) (a' := ?_) #[true, true, true, true, true, true, true, true, true, true, true, true, true, true, true, true, true, true, true, true, true, true, true, true, true, true, true, true, true, true, true, true] rfl rfl (any_of HT_.out (by kernel_rfl)) (fun _ _ _ h => h) (Or.inl ⟨by rfl, ?_⟩) ?_ ?_
      rotate_left
      ·
       intro w'
       go_simp
       with_reducible rfl
      rotate_left
      ·
       simp only [Act.put, List.setIfInBounds_toArray, List.set_cons_zero, List.set_cons_succ, i64_w, i32_w]
       rfl
      refine done_ (done_of HT_.out (by kernel_rfl)) ?_
      try go_wp2
      go_meet
      case rel => exact ⟨_, (((t338 == t342 && (t339 == t343 && (t340 == t344 && (t341.toList == t345.toList)))) != (t308 == t312 && (t309 == t313 && (t310 == t314 && (t311.toList == t315.toList)))))), (by rfl), H', ⟨by have := HJ8.out; have := HJ65.out; omega⟩, ⟨by (with_reducible repeat (first | refine blk_drewN ?_ _ | refine blk_drew ?_ | refine blk_alloc ?_ _)); exact BK316.out⟩, ⟨by (with_reducible repeat (first | refine blk_drewN ?_ _ | refine blk_drew ?_ | refine blk_alloc ?_ _)); exact BK317.out⟩, ⟨by (with_reducible repeat (first | refine blk_drewN ?_ _ | refine blk_drew ?_ | refine blk_alloc ?_ _)); exact BK327.out⟩, ⟨by (with_reducible repeat (first | refine blk_drewN ?_ _ | refine blk_drew ?_ | refine blk_alloc ?_ _)); exact BK328.out⟩, ⟨by (with_reducible repeat (first | refine blk_drewN ?_ _ | refine blk_drew ?_ | refine blk_alloc ?_ _)); exact BK346.out⟩, ⟨by (with_reducible repeat (first | refine blk_drewN ?_ _ | refine blk_drew ?_ | refine blk_alloc ?_ _)); exact BK347.out⟩, ⟨by repeat ((with_reducible exact HB.out))⟩⟩
     case rest =>
      clear HC116
      try clear c1
      try clear p2
      try clear c7
      try clear c15
      try clear c159
      try clear c159b0
      obtain ⟨kq, x111_115, rfl, HA, HJ115, BK316, BK317, BK327, BK328, BK346, BK347, HB⟩ := hcut
      cases kq with
      | zero => exact absurd HA.out (by simp [laws_FnAhead.j2])
      | succ kj115 =>
       have H := HA.out
       clear HA
       simp only [laws_FnAhead.j2] at H
       by_cases c170 : x111_115 = true
       ·
        subst c170
        have H1 : (some false) = some r := by rw [if_pos rfl] at H; exact H
        clear H
        have H := H1
        clear H1
        exact absurd ((Option.some.inj H).trans HTRUE_.out) (by decide)
       replace c170 := Bool.eq_false_iff.mpr c170
       subst c170
       have H1 : (if t334 = true then ((impl_RecAhead.f kj115 t312 t313 t314 t315 t319 t320 t321 t322).bind fun t349 => (if t349 = true then ((impl_RecAhead.f kj115 t308 t309 t310 t311 t319 t320 t321 t322).bind fun t350 => (some t350)) else (some true))) else (some true)) = some r := by rw [if_neg (show ¬ (false = true) by decide)] at H; exact H
       clear H
       have H := H1
       clear H1
       by_cases c171 : t334 = true
       rotate_left
       ·
        replace c171 := Bool.eq_false_iff.mpr c171
        subst c171
        have H1 : (some true) = some r := by rw [if_neg (show ¬ (false = true) by decide)] at H; exact H
        clear H
        have H := H1
        clear H1
        obtain rfl := Option.some.inj H
        go_wp2
        go_ret
        exact ⟨by rfl, by repeat ((with_reducible exact HB.out))⟩
       subst c171
       have H1 : ((impl_RecAhead.f kj115 t312 t313 t314 t315 t319 t320 t321 t322).bind fun t349 => (if t349 = true then ((impl_RecAhead.f kj115 t308 t309 t310 t311 t319 t320 t321 t322).bind fun t350 => (some t350)) else (some true))) = some r := by rw [if_pos rfl] at H; exact H
       clear H
       have H := H1
       clear H1
       replace H := Option.bind_eq_some_iff.mp H
       obtain ⟨t349, A1720, H⟩ := H
       replace H : (if t349 = true then ((impl_RecAhead.f kj115 t308 t309 t310 t311 t319 t320 t321 t322).bind fun t350 => (some t350)) else (some true)) = some r := H
       have A172 := Aside0.mk A1720
       clear A1720
       by_cases c173 : t349 = true
       ·
        subst c173
        have H1 : ((impl_RecAhead.f kj115 t308 t309 t310 t311 t319 t320 t321 t322).bind fun t350 => (some t350)) = some r := by rw [if_pos rfl] at H; exact H
        clear H
        have H := H1
        clear H1
        replace H := Option.bind_eq_some_iff.mp H
        obtain ⟨t350, A1740, H⟩ := H
        replace H : (some t350) = some r := H
        have A174 := Aside0.mk A1740
        clear A1740
        obtain rfl := Option.some.inj H
        have hnb175 := NB317_316.out
        have hnc175 := NB316_317.out
        have hnb176 := NB317_327.out
        have hnc176 := NB327_317.out
        have hnb177 := NB317_328.out
        have hnc177 := NB328_317.out
        have hnb178 := NB317_346.out
        have hnc178 := NB346_317.out
        have hnb179 := NB317_347.out
        have hnc179 := NB347_317.out
        have hcz180_0 : wc.cell? ⟨gb317, 0, none⟩ = some (.bool t312) := b3_ BK317.out 0 rfl
        have hcz180_1 : wc.cell? ⟨gb317, 1, none⟩ = some (.int .i64 t313) := b3_ BK317.out 1 rfl
        have hcz180_2 : wc.cell? ⟨gb317, 2, none⟩ = some (.int .i64 t314) := b3_ BK317.out 2 rfl
        have hcz180_3 : wc.cell? ⟨gb317, 3, none⟩ = some (.string t315) := b3_ BK317.out 3 rfl
        have hfz180_0 := blk_frozen BK317.out 0
        have hfz180_1 := blk_frozen BK317.out 1
        have hfz180_2 := blk_frozen BK317.out 2
        have hfz180_3 := blk_frozen BK317.out 3
        have hnb181 := NB327_316.out
        have hnc181 := NB316_327.out
        have hnb182 := NB327_328.out
        have hnc182 := NB328_327.out
        have hnb183 := NB327_346.out
        have hnc183 := NB346_327.out
        have hnb184 := NB327_347.out
        have hnc184 := NB347_327.out
        have hcz185_0 : wc.cell? ⟨gb327, 0, none⟩ = some (.bool t319) := b3_ BK327.out 0 rfl
        have hcz185_1 : wc.cell? ⟨gb327, 1, none⟩ = some (.int .i64 t320) := b3_ BK327.out 1 rfl
        have hcz185_2 : wc.cell? ⟨gb327, 2, none⟩ = some (.int .i64 t321) := b3_ BK327.out 2 rfl
        have hcz185_3 : wc.cell? ⟨gb327, 3, none⟩ = some (.string t322) := b3_ BK327.out 3 rfl
        have hfz185_0 := blk_frozen BK327.out 0
        have hfz185_1 := blk_frozen BK327.out 1
        have hfz185_2 := blk_frozen BK327.out 2
        have hfz185_3 := blk_frozen BK327.out 3
        go_wp2_with (first | (go_at_call 7; (with_reducible refine (impl_RecAhead.calls kj115 t312 t313 t314 t315 t319 t320 t321 t322 true _ A172.out).mono ?_); rintro e w186 ⟨rfl, hb⟩; have n0_ := Aside0.mk (blk_below BK316.out hb); have n1_ := Aside0.mk (blk_below BK317.out hb); have n2_ := Aside0.mk (blk_below BK327.out hb); have n3_ := Aside0.mk (blk_below BK328.out hb); have n4_ := Aside0.mk (blk_below BK346.out hb); have n5_ := Aside0.mk (blk_below BK347.out hb); have n6_ := Aside0.mk (below_step (by repeat ((with_reducible exact HB.out))) hb); replace BK316 := n0_; replace BK317 := n1_; replace BK327 := n2_; replace BK328 := n3_; replace BK346 := n4_; replace BK347 := n5_; replace HB := n6_; clear n0_ n1_ n2_ n3_ n4_ n5_ n6_; (try clear hb); (try clear hb2); (try clear hk); (try clear hi); have hnb187 := NB316_328.out; have hnc187 := NB328_316.out; have hnb188 := NB316_346.out; have hnc188 := NB346_316.out; have hnb189 := NB316_347.out; have hnc189 := NB347_316.out; have hcz190_0 : w186.cell? ⟨gb316, 0, none⟩ = some (.bool t308) := b3_ BK316.out 0 rfl; have hcz190_1 : w186.cell? ⟨gb316, 1, none⟩ = some (.int .i64 t309) := b3_ BK316.out 1 rfl; have hcz190_2 : w186.cell? ⟨gb316, 2, none⟩ = some (.int .i64 t310) := b3_ BK316.out 2 rfl; have hcz190_3 : w186.cell? ⟨gb316, 3, none⟩ = some (.string t311) := b3_ BK316.out 3 rfl; have hfz190_0 := blk_frozen BK316.out 0; have hfz190_1 := blk_frozen BK316.out 1; have hfz190_2 := blk_frozen BK316.out 2; have hfz190_3 := blk_frozen BK316.out 3; have hcz191_0 : w186.cell? ⟨gb327, 0, none⟩ = some (.bool t319) := b3_ BK327.out 0 rfl; have hcz191_1 : w186.cell? ⟨gb327, 1, none⟩ = some (.int .i64 t320) := b3_ BK327.out 1 rfl; have hcz191_2 : w186.cell? ⟨gb327, 2, none⟩ = some (.int .i64 t321) := b3_ BK327.out 2 rfl; have hcz191_3 : w186.cell? ⟨gb327, 3, none⟩ = some (.string t322) := b3_ BK327.out 3 rfl; have hfz191_0 := blk_frozen BK327.out 0; have hfz191_1 := blk_frozen BK327.out 1; have hfz191_2 := blk_frozen BK327.out 2; have hfz191_3 := blk_frozen BK327.out 3) | (go_at_call 7; (with_reducible refine (impl_RecAhead.calls kj115 t308 t309 t310 t311 t319 t320 t321 t322 t350 _ A174.out).mono ?_); rintro e w192 ⟨rfl, hb⟩; have n0_ := Aside0.mk (blk_below BK316.out hb); have n1_ := Aside0.mk (blk_below BK317.out hb); have n2_ := Aside0.mk (blk_below BK327.out hb); have n3_ := Aside0.mk (blk_below BK328.out hb); have n4_ := Aside0.mk (blk_below BK346.out hb); have n5_ := Aside0.mk (blk_below BK347.out hb); have n6_ := Aside0.mk (below_step (by repeat ((with_reducible exact HB.out))) hb); replace BK316 := n0_; replace BK317 := n1_; replace BK327 := n2_; replace BK328 := n3_; replace BK346 := n4_; replace BK347 := n5_; replace HB := n6_; clear n0_ n1_ n2_ n3_ n4_ n5_ n6_; (try clear hb); (try clear hb2); (try clear hk); (try clear hi)))
        go_ret
        exact ⟨by rfl, by repeat ((with_reducible exact HB.out))⟩
       replace c173 := Bool.eq_false_iff.mpr c173
       subst c173
       have H1 : (some true) = some r := by rw [if_neg (show ¬ (false = true) by decide)] at H; exact H
       clear H
       have H := H1
       clear H1
       obtain rfl := Option.some.inj H
       have hnb193 := NB317_316.out
       have hnc193 := NB316_317.out
       have hnb194 := NB317_327.out
       have hnc194 := NB327_317.out
       have hnb195 := NB317_328.out
       have hnc195 := NB328_317.out
       have hnb196 := NB317_346.out
       have hnc196 := NB346_317.out
       have hnb197 := NB317_347.out
       have hnc197 := NB347_317.out
       have hcz198_0 : wc.cell? ⟨gb317, 0, none⟩ = some (.bool t312) := b3_ BK317.out 0 rfl
       have hcz198_1 : wc.cell? ⟨gb317, 1, none⟩ = some (.int .i64 t313) := b3_ BK317.out 1 rfl
       have hcz198_2 : wc.cell? ⟨gb317, 2, none⟩ = some (.int .i64 t314) := b3_ BK317.out 2 rfl
       have hcz198_3 : wc.cell? ⟨gb317, 3, none⟩ = some (.string t315) := b3_ BK317.out 3 rfl
       have hfz198_0 := blk_frozen BK317.out 0
       have hfz198_1 := blk_frozen BK317.out 1
       have hfz198_2 := blk_frozen BK317.out 2
       have hfz198_3 := blk_frozen BK317.out 3
       have hnb199 := NB327_316.out
       have hnc199 := NB316_327.out
       have hnb200 := NB327_328.out
       have hnc200 := NB328_327.out
       have hnb201 := NB327_346.out
       have hnc201 := NB346_327.out
       have hnb202 := NB327_347.out
       have hnc202 := NB347_327.out
       have hcz203_0 : wc.cell? ⟨gb327, 0, none⟩ = some (.bool t319) := b3_ BK327.out 0 rfl
       have hcz203_1 : wc.cell? ⟨gb327, 1, none⟩ = some (.int .i64 t320) := b3_ BK327.out 1 rfl
       have hcz203_2 : wc.cell? ⟨gb327, 2, none⟩ = some (.int .i64 t321) := b3_ BK327.out 2 rfl
       have hcz203_3 : wc.cell? ⟨gb327, 3, none⟩ = some (.string t322) := b3_ BK327.out 3 rfl
       have hfz203_0 := blk_frozen BK327.out 0
       have hfz203_1 := blk_frozen BK327.out 1
       have hfz203_2 := blk_frozen BK327.out 2
       have hfz203_3 := blk_frozen BK327.out 3
       go_wp2_with ((go_at_call 7; (with_reducible refine (impl_RecAhead.calls kj115 t312 t313 t314 t315 t319 t320 t321 t322 false _ A172.out).mono ?_); rintro e w204 ⟨rfl, hb⟩; have n0_ := Aside0.mk (blk_below BK316.out hb); have n1_ := Aside0.mk (blk_below BK317.out hb); have n2_ := Aside0.mk (blk_below BK327.out hb); have n3_ := Aside0.mk (blk_below BK328.out hb); have n4_ := Aside0.mk (blk_below BK346.out hb); have n5_ := Aside0.mk (blk_below BK347.out hb); have n6_ := Aside0.mk (below_step (by repeat ((with_reducible exact HB.out))) hb); replace BK316 := n0_; replace BK317 := n1_; replace BK327 := n2_; replace BK328 := n3_; replace BK346 := n4_; replace BK347 := n5_; replace HB := n6_; clear n0_ n1_ n2_ n3_ n4_ n5_ n6_; (try clear hb); (try clear hb2); (try clear hk); (try clear hi)))
       go_ret
       exact ⟨by rfl, by repeat ((with_reducible exact HB.out))⟩

/-- THE ONE PURE STATEMENT of laws_FnAhead: yours. -/
def laws_FnAhead.Pure : Prop := ∀ (l0 : List Int), l0.length ≤ maxLen → l0.length * 1 ≤ 140737488351232 → (∀ x ∈ l0, (Lit.int .u8 x).wf = true) → ∃ k, laws_FnAhead.f k l0 = some true
theorem laws_FnAhead.walk (P : laws_FnAhead.Pure) (a0 : Option Addr) (len0 cap0 : Nat) (z0 : List Int) (w : World) (w0 : (a0 = none ∧ len0 = 0 ∧ cap0 = 0 ∧ z0 = []) ∨ ∃ x, a0 = some x ∧ len0 ≤ cap0 ∧ cap0 ≤ maxLen ∧ z0.length = cap0 ∧ (∀ i, i < z0.length → w.cell? (x.add i) = some (.int .u8 (z0.getD i 0))) ∧ ∀ n ∈ z0, (Lit.int .u8 n).wf = true) (y0 : len0 * 1 ≤ 140737488351232) :
    Calls Try.prog 3 #[.slice a0 len0 cap0] w fun e w' => e = .returned (.bool true) ∧ Below w.heap.size w w' := by
 obtain ⟨l0, rfl, hr0, hm0, hw0, hc0⟩ := ReadsInt.ofRowC w0
 obtain ⟨k, h⟩ := P l0 hm0 y0 hw0
 refine (laws_FnAhead.calls k _ _ l0 true w (Kd.C_of_reads (d := (0 : Int)) (h1 := fun _ => rfl) hr0) hc0 h).mono ?_
 rintro e w' ⟨rfl, hd⟩
 exact ⟨rfl, hd⟩

end Go.Proofs.Ytmlbkanpdhnfeaa.PFnAhead

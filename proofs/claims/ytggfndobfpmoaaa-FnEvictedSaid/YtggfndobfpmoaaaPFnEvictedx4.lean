-- Laid by a program of this session: what the print of the kit writes, and contracts of the session where the print takes no function. Lean checks it.
import Derived.Test.YtggfndobfpmoaaaPFnEvictedx0
import Derived.Test.YtggfndobfpmoaaaPFnEvictedx1
import Derived.Test.YtggfndobfpmoaaaPFnEvictedx2
import Derived.Test.YtggfndobfpmoaaaPFnEvictedx3
namespace Go.Proofs.Ytggfndobfpmoaaa.PFnEvicted
open Go.RowKit Go.Proofs.YtggfndobfpmoaaaW.PrintWords Go.Proofs.YtggfndobfpmoaaaW.PrintLast Go.Proofs.YtggfndobfpmoaaaW.PrintMore
attribute [local go_sem] max2_int min2_int max_two min_two max_three min_three max_four min_four   -- for this text's walks alone
set_option linter.unusedVariables false
set_option linter.unusedSimpArgs false

/-! ### spec_l01Cur_stash: function 68 -/
def spec_l01Cur_stash.l0 : Nat → Int → Int → List (S26) → Int → List Int → Int → Int → Option ((List (S26)) × Int × Int × Int × Int)
  | 0, _, _, _, _, _, _, _ => none
  | k + 1, x5, x6, x7, x8, x1000, x1001, x1002 => (spec_l01Cur_pick.f x1000 x1001 x1002 2).bind fun bt260 => (if x8 < (wrap64 (128 + bt260.1)) then (if 0 ≤ (mn 5 (mx 1 x6)) then (if (mn 5 (mx 1 x6) : Int).toNat ≤ 281474976710656 then (if x7.length < 3518437208883 then (spec_l01Cur_stash.l0 k x5 x6 (x7 ++ [(⟨x8, 0, (List.replicate (mn 5 (mx 1 x6) : Int).toNat 0)⟩ : S26)]) (wrap64 (x8 + 1)) x1000 bt260.2.1 bt260.2.2) else (none)) else (none)) else (none)) else (some (x7, x5, x6, bt260.2.1, bt260.2.2)))
def spec_l01Cur_stash.f (k : Nat) (s0_0 : List Int) (s0_1 : Int) (s0_2 : Int) : Option ((List (S26)) × Int × Int × Int × Int) := (spec_l01Cur_frame.f s0_0 s0_1 s0_2).bind fun bt229 => ((some (([4, 14, 30] : List Int) : List Int)).bind fun y233 => ((spec_l01Cur_pick.f s0_0 bt229.2.2.1 bt229.2.2.2 3).bind fun bt236 => (if 0 ≤ bt236.1 then (if bt236.1 < (y233.length : Int) then ((spec_l12Clip.f bt229.1).bind fun t240 => ((spec_l01Cur_blocks.f k s0_0 bt236.2.1 bt236.2.2 (rd y233 bt236.1) t240 (mn 5 (mx 1 bt229.2.1))).bind fun bt241 => ((spec_l01Cur_once.f s0_0 bt241.2.1 bt241.2.2 5).bind fun bt246 => (if bt246.1 = true then ((spec_l01Cur_badBlocks.f k s0_0 bt246.2.1 bt246.2.2 bt241.1).bind fun bt249 => ((spec_l01Cur_once.f s0_0 bt249.2.1 bt249.2.2 20).bind fun bt254 => (if bt254.1 = true then (spec_l01Cur_stash.l0 k bt229.1 bt229.2.1 (([] : List (S26))) 0 s0_0 bt254.2.1 bt254.2.2) else (some (bt249.1, bt229.1, bt229.2.1, bt254.2.1, bt254.2.2))))) else ((spec_l01Cur_once.f s0_0 bt246.2.1 bt246.2.2 20).bind fun bt269 => (if bt269.1 = true then (spec_l01Cur_stash.l0 k bt229.1 bt229.2.1 (([] : List (S26))) 0 s0_0 bt269.2.1 bt269.2.2) else (some (bt241.1, bt229.1, bt229.2.1, bt269.2.1, bt269.2.2)))))))) else (none)) else (none))))
theorem spec_l01Cur_stash.mono_l : ∀ k, (∀ y0 y1 y2 y3 y4 y5 y6, LeO (spec_l01Cur_stash.l0 k y0 y1 y2 y3 y4 y5 y6) (spec_l01Cur_stash.l0 (k + 1) y0 y1 y2 y3 y4 y5 y6))
  | 0 => fun _ _ _ _ _ _ _ r h => by simp [spec_l01Cur_stash.l0] at h
  | k + 1 => by
    have ih0 := spec_l01Cur_stash.mono_l k
    · intro y0 y1 y2 y3 y4 y5 y6
      unfold spec_l01Cur_stash.l0
      repeat' first | (with_reducible exact ih0 _ _ _ _ _ _ _) | (with_reducible exact LeO.refl _) | (with_reducible refine LeO.ite ?_ ?_) | (with_reducible refine LeO.bind ?_ (fun _ => ?_))
theorem spec_l01Cur_stash.mono : ∀ a0 a1 a2 k, LeO (spec_l01Cur_stash.f k a0 a1 a2) (spec_l01Cur_stash.f (k + 1) a0 a1 a2) := by
  intro a0 a1 a2 k
  have ih0 := spec_l01Cur_stash.mono_l k
  unfold spec_l01Cur_stash.f
  repeat' first | (with_reducible exact ih0 _ _ _ _ _ _ _) | (with_reducible exact spec_l01Cur_badBlocks.mono _ _ _ _ _) | (with_reducible exact spec_l01Cur_blocks.mono _ _ _ _ _ _ _) | (with_reducible exact LeO.refl _) | (with_reducible refine LeO.ite ?_ ?_) | (with_reducible refine LeO.bind ?_ (fun _ => ?_))
def spec_l01Cur_stash.T2 : Bool × List (List Nat × List Nat) := (true, [([], []), ([], []), ([], []), ([2], [2]), ([1, 3], [1, 3]), ([4], [4]), ([], []), ([6, 3], [6]), ([], []), ([8], [8]), ([9], [9]), ([0, 5, 7, 10, 7], [0, 5, 7, 10]), ([11, 11, 0, 1, 2, 3, 4, 5, 6, 7, 8, 9, 10, 11], [11])])
def spec_l01Cur_stash.B2 : List Nat := [0, 0, 0, 4, 14, 30, 0, 76, 0, 256, 768, 2047, 4095]
theorem spec_l01Cur_stash.tab2 : rtab .any (opsOf Try.f68 2) = spec_l01Cur_stash.T2 := by kernel_rfl
theorem spec_l01Cur_stash.bits2 : waitsOk spec_l01Cur_stash.T2.2 spec_l01Cur_stash.B2 = true := by kernel_rfl
theorem blocks_raise {w : World} {b b' : Nat} {ok : Nat → Prop} {v : Value} {xs : List S26} (h : Kd.S k26 26 w b ok v xs) (hok : ∀ k, ok k → b' ≤ k) : Kd.S k26 26 w b' ok v xs := by
  obtain ⟨f, h0, inner, ho, hr⟩ := h
  refine ⟨f, h0, inner, Kd.own_raise ho (fun k e => hok k (h0 k e)), hr.imp_ (fun x cs hp => ?_)⟩
  obtain ⟨u, rfl, hu⟩ := k26_openM (show k26.M w b _ x.1 cs from hp)
  exact k26_mkM _ _ _ x.1 (Kd.R_raise (d := Kd.int .u8) (b := b) (b' := b') (fun _ _ _ _ h_ => h_) hu (fun k e => hok k (hu.1 k e).1.1))
set_option maxHeartbeats 8000000 in
set_option maxRecDepth 100000 in
theorem spec_l01Cur_stash.calls (k : Nat) (g : Nat) (s0_0 : List Int) (s0_1 : Int) (s0_2 : Int) (r1 : List (S26)) (r2 : Int) (r3 : Int) (r4 : Int) (r5 : Int) (w0 w : World) (hI : IsS92 w0 w g s0_0 s0_1 s0_2) (hB : Below w0.heap.size w0 w) (h : spec_l01Cur_stash.f k s0_0 s0_1 s0_2 = some (r1, r2, r3, r4, r5)) :
    Calls Try.prog 68 #[.pointer (some ⟨g, 0, none⟩)] w fun e w' => ∃ v0_ : Value, e = .returned (.tuple #[v0_, .int .i64 r2, .int .i64 r3]) ∧ Kd.S k26 26 w' w.heap.size (fun _ => True) v0_ r1 ∧ IsS92 w0 w' g s0_0 r4 r5 ∧ Below w0.heap.size w0 w' ∧ KeepBut w w' g none := by
 have hu26 := Try.underlying26
 have HI0 := Aside0.mk hI
 have HK := Aside0.mk (KeepBut.refl w g none)
 have HL := Aside0.mk hB.size
 clear hI
 have HW0 := Aside0.mk hB.size
 have HB := Aside0.mk hB
 clear hB
 have H : ((spec_l01Cur_frame.f s0_0 s0_1 s0_2).bind fun bt229 => ((some (([4, 14, 30] : List Int) : List Int)).bind fun y233 => ((spec_l01Cur_pick.f s0_0 bt229.2.2.1 bt229.2.2.2 3).bind fun bt236 => (if 0 ≤ bt236.1 then (if bt236.1 < (y233.length : Int) then ((spec_l12Clip.f bt229.1).bind fun t240 => ((spec_l01Cur_blocks.f k s0_0 bt236.2.1 bt236.2.2 (rd y233 bt236.1) t240 (mn 5 (mx 1 bt229.2.1))).bind fun bt241 => ((spec_l01Cur_once.f s0_0 bt241.2.1 bt241.2.2 5).bind fun bt246 => (if bt246.1 = true then ((spec_l01Cur_badBlocks.f k s0_0 bt246.2.1 bt246.2.2 bt241.1).bind fun bt249 => ((spec_l01Cur_once.f s0_0 bt249.2.1 bt249.2.2 20).bind fun bt254 => (if bt254.1 = true then (spec_l01Cur_stash.l0 k bt229.1 bt229.2.1 (([] : List (S26))) 0 s0_0 bt254.2.1 bt254.2.2) else (some (bt249.1, bt229.1, bt229.2.1, bt254.2.1, bt254.2.2))))) else ((spec_l01Cur_once.f s0_0 bt246.2.1 bt246.2.2 20).bind fun bt269 => (if bt269.1 = true then (spec_l01Cur_stash.l0 k bt229.1 bt229.2.1 (([] : List (S26))) 0 s0_0 bt269.2.1 bt269.2.2) else (some (bt241.1, bt229.1, bt229.2.1, bt269.2.1, bt269.2.2)))))))) else (none)) else (none))))) = some (r1, r2, r3, r4, r5) := h
 clear h
 replace H := Option.bind_eq_some_iff.mp H
 obtain ⟨⟨t229, t230, t231, t232⟩, A20, H⟩ := H
 replace H : ((some (([4, 14, 30] : List Int) : List Int)).bind fun y233 => ((spec_l01Cur_pick.f s0_0 t231 t232 3).bind fun bt236 => (if 0 ≤ bt236.1 then (if bt236.1 < (y233.length : Int) then ((spec_l12Clip.f t229).bind fun t240 => ((spec_l01Cur_blocks.f k s0_0 bt236.2.1 bt236.2.2 (rd y233 bt236.1) t240 (mn 5 (mx 1 t230))).bind fun bt241 => ((spec_l01Cur_once.f s0_0 bt241.2.1 bt241.2.2 5).bind fun bt246 => (if bt246.1 = true then ((spec_l01Cur_badBlocks.f k s0_0 bt246.2.1 bt246.2.2 bt241.1).bind fun bt249 => ((spec_l01Cur_once.f s0_0 bt249.2.1 bt249.2.2 20).bind fun bt254 => (if bt254.1 = true then (spec_l01Cur_stash.l0 k t229 t230 (([] : List (S26))) 0 s0_0 bt254.2.1 bt254.2.2) else (some (bt249.1, t229, t230, bt254.2.1, bt254.2.2))))) else ((spec_l01Cur_once.f s0_0 bt246.2.1 bt246.2.2 20).bind fun bt269 => (if bt269.1 = true then (spec_l01Cur_stash.l0 k t229 t230 (([] : List (S26))) 0 s0_0 bt269.2.1 bt269.2.2) else (some (bt241.1, t229, t230, bt269.2.1, bt269.2.2)))))))) else (none)) else (none)))) = some (r1, r2, r3, r4, r5) := H
 have A2 := Aside0.mk A20
 clear A20
 obtain ⟨y233, hy233⟩ : ∃ y_ : List Int, y_ = (([4, 14, 30] : List Int)) := ⟨_, rfl⟩
 replace H : ((spec_l01Cur_pick.f s0_0 t231 t232 3).bind fun bt236 => (if 0 ≤ bt236.1 then (if bt236.1 < (y233.length : Int) then ((spec_l12Clip.f t229).bind fun t240 => ((spec_l01Cur_blocks.f k s0_0 bt236.2.1 bt236.2.2 (rd y233 bt236.1) t240 (mn 5 (mx 1 t230))).bind fun bt241 => ((spec_l01Cur_once.f s0_0 bt241.2.1 bt241.2.2 5).bind fun bt246 => (if bt246.1 = true then ((spec_l01Cur_badBlocks.f k s0_0 bt246.2.1 bt246.2.2 bt241.1).bind fun bt249 => ((spec_l01Cur_once.f s0_0 bt249.2.1 bt249.2.2 20).bind fun bt254 => (if bt254.1 = true then (spec_l01Cur_stash.l0 k t229 t230 (([] : List (S26))) 0 s0_0 bt254.2.1 bt254.2.2) else (some (bt249.1, t229, t230, bt254.2.1, bt254.2.2))))) else ((spec_l01Cur_once.f s0_0 bt246.2.1 bt246.2.2 20).bind fun bt269 => (if bt269.1 = true then (spec_l01Cur_stash.l0 k t229 t230 (([] : List (S26))) 0 s0_0 bt269.2.1 bt269.2.2) else (some (bt241.1, t229, t230, bt269.2.1, bt269.2.2)))))))) else (none)) else (none))) = some (r1, r2, r3, r4, r5) := by (have H2_ := (Option.bind_some _ _).symm.trans H; rw [hy233]; with_reducible exact H2_)
 have Ny233 := Aside0.mk hy233
 clear hy233
 replace H := Option.bind_eq_some_iff.mp H
 obtain ⟨⟨t236, t237, t238⟩, A30, H⟩ := H
 replace H : (if 0 ≤ t236 then (if t236 < (y233.length : Int) then ((spec_l12Clip.f t229).bind fun t240 => ((spec_l01Cur_blocks.f k s0_0 t237 t238 (rd y233 t236) t240 (mn 5 (mx 1 t230))).bind fun bt241 => ((spec_l01Cur_once.f s0_0 bt241.2.1 bt241.2.2 5).bind fun bt246 => (if bt246.1 = true then ((spec_l01Cur_badBlocks.f k s0_0 bt246.2.1 bt246.2.2 bt241.1).bind fun bt249 => ((spec_l01Cur_once.f s0_0 bt249.2.1 bt249.2.2 20).bind fun bt254 => (if bt254.1 = true then (spec_l01Cur_stash.l0 k t229 t230 (([] : List (S26))) 0 s0_0 bt254.2.1 bt254.2.2) else (some (bt249.1, t229, t230, bt254.2.1, bt254.2.2))))) else ((spec_l01Cur_once.f s0_0 bt246.2.1 bt246.2.2 20).bind fun bt269 => (if bt269.1 = true then (spec_l01Cur_stash.l0 k t229 t230 (([] : List (S26))) 0 s0_0 bt269.2.1 bt269.2.2) else (some (bt241.1, t229, t230, bt269.2.1, bt269.2.2)))))))) else (none)) else (none)) = some (r1, r2, r3, r4, r5) := H
 have A3 := Aside0.mk A30
 clear A30
 by_cases c4 : 0 ≤ t236
 rotate_left
 ·
  rw [if_neg c4] at H
  exact absurd H (by simp)
 rw [if_pos c4] at H
 have c4b0 : decide (0 ≤ t236) = true := decide_eq_true c4
 clear c4
 by_cases c5 : t236 < (y233.length : Int)
 rotate_left
 ·
  rw [if_neg c5] at H
  exact absurd H (by simp)
 rw [if_pos c5] at H
 have c5b0 : decide (t236 < (y233.length : Int)) = true := decide_eq_true c5
 clear c5
 replace H := Option.bind_eq_some_iff.mp H
 obtain ⟨t240, A60, H⟩ := H
 replace H : ((spec_l01Cur_blocks.f k s0_0 t237 t238 (rd y233 t236) t240 (mn 5 (mx 1 t230))).bind fun bt241 => ((spec_l01Cur_once.f s0_0 bt241.2.1 bt241.2.2 5).bind fun bt246 => (if bt246.1 = true then ((spec_l01Cur_badBlocks.f k s0_0 bt246.2.1 bt246.2.2 bt241.1).bind fun bt249 => ((spec_l01Cur_once.f s0_0 bt249.2.1 bt249.2.2 20).bind fun bt254 => (if bt254.1 = true then (spec_l01Cur_stash.l0 k t229 t230 (([] : List (S26))) 0 s0_0 bt254.2.1 bt254.2.2) else (some (bt249.1, t229, t230, bt254.2.1, bt254.2.2))))) else ((spec_l01Cur_once.f s0_0 bt246.2.1 bt246.2.2 20).bind fun bt269 => (if bt269.1 = true then (spec_l01Cur_stash.l0 k t229 t230 (([] : List (S26))) 0 s0_0 bt269.2.1 bt269.2.2) else (some (bt241.1, t229, t230, bt269.2.1, bt269.2.2))))))) = some (r1, r2, r3, r4, r5) := H
 have A6 := Aside0.mk A60
 clear A60
 obtain ⟨ji7, hji7⟩ : ∃ j_ : Int, (mx 1 t230) = j_ := ⟨_, rfl⟩
 replace H : ((spec_l01Cur_blocks.f k s0_0 t237 t238 (rd y233 t236) t240 (mn 5 (ji7))).bind fun bt241 => ((spec_l01Cur_once.f s0_0 bt241.2.1 bt241.2.2 5).bind fun bt246 => (if bt246.1 = true then ((spec_l01Cur_badBlocks.f k s0_0 bt246.2.1 bt246.2.2 bt241.1).bind fun bt249 => ((spec_l01Cur_once.f s0_0 bt249.2.1 bt249.2.2 20).bind fun bt254 => (if bt254.1 = true then (spec_l01Cur_stash.l0 k t229 t230 (([] : List (S26))) 0 s0_0 bt254.2.1 bt254.2.2) else (some (bt249.1, t229, t230, bt254.2.1, bt254.2.2))))) else ((spec_l01Cur_once.f s0_0 bt246.2.1 bt246.2.2 20).bind fun bt269 => (if bt269.1 = true then (spec_l01Cur_stash.l0 k t229 t230 (([] : List (S26))) 0 s0_0 bt269.2.1 bt269.2.2) else (some (bt241.1, t229, t230, bt269.2.1, bt269.2.2))))))) = some (r1, r2, r3, r4, r5) := by (rw [hji7] at H; exact H)
 (try rw [hji7] at A2)
 (try rw [hji7] at A3)
 (try rw [hji7] at A6)
 (try (have hji7l : 1 ≤ ji7 := by (rw [← hji7]; unfold mx; (repeat' split) <;> omega)))
 (try (have hji7m : 0 ≤ ji7 := by omega))
 have hji7_ : (if 1 < t230 then t230 else 1) = ji7 := hji7
 obtain ⟨ji8, hji8⟩ : ∃ j_ : Int, (mn 5 (ji7)) = j_ := ⟨_, rfl⟩
 replace H : ((spec_l01Cur_blocks.f k s0_0 t237 t238 (rd y233 t236) t240 (ji8)).bind fun bt241 => ((spec_l01Cur_once.f s0_0 bt241.2.1 bt241.2.2 5).bind fun bt246 => (if bt246.1 = true then ((spec_l01Cur_badBlocks.f k s0_0 bt246.2.1 bt246.2.2 bt241.1).bind fun bt249 => ((spec_l01Cur_once.f s0_0 bt249.2.1 bt249.2.2 20).bind fun bt254 => (if bt254.1 = true then (spec_l01Cur_stash.l0 k t229 t230 (([] : List (S26))) 0 s0_0 bt254.2.1 bt254.2.2) else (some (bt249.1, t229, t230, bt254.2.1, bt254.2.2))))) else ((spec_l01Cur_once.f s0_0 bt246.2.1 bt246.2.2 20).bind fun bt269 => (if bt269.1 = true then (spec_l01Cur_stash.l0 k t229 t230 (([] : List (S26))) 0 s0_0 bt269.2.1 bt269.2.2) else (some (bt241.1, t229, t230, bt269.2.1, bt269.2.2))))))) = some (r1, r2, r3, r4, r5) := by (rw [hji8] at H; exact H)
 (try rw [hji8] at A2)
 (try rw [hji8] at A3)
 (try rw [hji8] at A6)
 have hji8_ : (if (ji7) < 5 then (ji7) else 5) = ji8 := hji8
 replace H := Option.bind_eq_some_iff.mp H
 obtain ⟨⟨t241, t244, t245⟩, A90, H⟩ := H
 replace H : ((spec_l01Cur_once.f s0_0 t244 t245 5).bind fun bt246 => (if bt246.1 = true then ((spec_l01Cur_badBlocks.f k s0_0 bt246.2.1 bt246.2.2 t241).bind fun bt249 => ((spec_l01Cur_once.f s0_0 bt249.2.1 bt249.2.2 20).bind fun bt254 => (if bt254.1 = true then (spec_l01Cur_stash.l0 k t229 t230 (([] : List (S26))) 0 s0_0 bt254.2.1 bt254.2.2) else (some (bt249.1, t229, t230, bt254.2.1, bt254.2.2))))) else ((spec_l01Cur_once.f s0_0 bt246.2.1 bt246.2.2 20).bind fun bt269 => (if bt269.1 = true then (spec_l01Cur_stash.l0 k t229 t230 (([] : List (S26))) 0 s0_0 bt269.2.1 bt269.2.2) else (some (t241, t229, t230, bt269.2.1, bt269.2.2)))))) = some (r1, r2, r3, r4, r5) := H
 have A9 := Aside0.mk A90
 clear A90
 replace H := Option.bind_eq_some_iff.mp H
 obtain ⟨⟨t246, t247, t248⟩, A100, H⟩ := H
 replace H : (if t246 = true then ((spec_l01Cur_badBlocks.f k s0_0 t247 t248 t241).bind fun bt249 => ((spec_l01Cur_once.f s0_0 bt249.2.1 bt249.2.2 20).bind fun bt254 => (if bt254.1 = true then (spec_l01Cur_stash.l0 k t229 t230 (([] : List (S26))) 0 s0_0 bt254.2.1 bt254.2.2) else (some (bt249.1, t229, t230, bt254.2.1, bt254.2.2))))) else ((spec_l01Cur_once.f s0_0 t247 t248 20).bind fun bt269 => (if bt269.1 = true then (spec_l01Cur_stash.l0 k t229 t230 (([] : List (S26))) 0 s0_0 bt269.2.1 bt269.2.2) else (some (t241, t229, t230, bt269.2.1, bt269.2.2))))) = some (r1, r2, r3, r4, r5) := H
 have A10 := Aside0.mk A100
 clear A100
 by_cases c11 : t246 = true
 ·
  subst c11
  have H1 : ((spec_l01Cur_badBlocks.f k s0_0 t247 t248 t241).bind fun bt249 => ((spec_l01Cur_once.f s0_0 bt249.2.1 bt249.2.2 20).bind fun bt254 => (if bt254.1 = true then (spec_l01Cur_stash.l0 k t229 t230 (([] : List (S26))) 0 s0_0 bt254.2.1 bt254.2.2) else (some (bt249.1, t229, t230, bt254.2.1, bt254.2.2))))) = some (r1, r2, r3, r4, r5) := by rw [if_pos rfl] at H; exact H
  clear H
  have H := H1
  clear H1
  replace H := Option.bind_eq_some_iff.mp H
  obtain ⟨⟨t249, t252, t253⟩, A120, H⟩ := H
  replace H : ((spec_l01Cur_once.f s0_0 t252 t253 20).bind fun bt254 => (if bt254.1 = true then (spec_l01Cur_stash.l0 k t229 t230 (([] : List (S26))) 0 s0_0 bt254.2.1 bt254.2.2) else (some (t249, t229, t230, bt254.2.1, bt254.2.2)))) = some (r1, r2, r3, r4, r5) := H
  have A12 := Aside0.mk A120
  clear A120
  replace H := Option.bind_eq_some_iff.mp H
  obtain ⟨⟨t254, t255, t256⟩, A130, H⟩ := H
  replace H : (if t254 = true then (spec_l01Cur_stash.l0 k t229 t230 (([] : List (S26))) 0 s0_0 t255 t256) else (some (t249, t229, t230, t255, t256))) = some (r1, r2, r3, r4, r5) := H
  have A13 := Aside0.mk A130
  clear A130
  by_cases c14 : t254 = true
  rotate_left
  ·
   replace c14 := Bool.eq_false_iff.mpr c14
   subst c14
   have H1 : (some (t249, t229, t230, t255, t256)) = some (r1, r2, r3, r4, r5) := by rw [if_neg (show ¬ (false = true) by decide)] at H; exact H
   clear H
   have H := H1
   clear H1
   simp only [Option.some.injEq, Prod.mk.injEq] at H
   obtain ⟨rfl, rfl, rfl, rfl, rfl⟩ := H
   go_enter Try.func68, Try.ntmps68
   try go_wp2_with (((with_reducible refine gate_callee (f := 54) rfl ?_); refine goesL_ (some 11) rfl rfl Try.func54 (by kernel_rfl) rfl #[.pointer (some ⟨g, 0, none⟩)] rfl (by (try simp only [List.map_toArray, List.map_cons, List.map_nil]); rfl) ?_; (with_reducible refine (spec_l01Cur_frame.calls g s0_0 s0_1 s0_2 t229 t230 t231 t232 w0 _ ?side1 ?side2 A2.out).mono ?_); (case side1 => repeat ((with_reducible exact HI0.out))); (case side2 => repeat ((with_reducible exact HB.out))); rintro e w44 ⟨rfl, hi, hb, hk⟩; refine ⟨_, rfl, ?_⟩; have n0_ := Aside0.mk (KeepBut.trans (by repeat ((with_reducible exact HK.out))) hk (.inl rfl)); have n1_ := Aside0.mk (hb); have n2_ := Aside0.mk (hi); clear HK; clear HB; clear HI0; have HK := n0_; have HB := n1_; have HI0 := n2_; clear n0_ n1_ n2_; (try clear hb); (try clear hb2); (try clear hk); (try clear hi)))
   have pi239 : (0 ≤ (t236 : Int)) = True := eq_true (of_decide_eq_true (by (with_reducible assumption)))
   have qi239 : (t236 < (y233.length : Int)) = True := eq_true (of_decide_eq_true (by (with_reducible assumption)))
   replace HI0 := Aside0.mk (IsS92.drew HI0.out)
   replace HK := Aside0.mk (keep_drew HK.out)
   replace HB := Aside0.mk (below_drew1 HB.out)
   refine start_ (n := 13) (S := fun w' => True) (ds := []) #[false, false, false, false, false, false, false, false, false, false, false, false, false] (by kernel_rfl) rfl rfl trivial (fun hHeld => ?_); refine with_tabW spec_l01Cur_stash.tab2 spec_l01Cur_stash.bits2 (fun HT_ HW_ => ?_)
   generalize w44.drew = w45 at HI0 HK HB hHeld ⊢
   refine pure_ (i := 0) (N := some 14) (v := ?_) (a' := ?_) #[true, false, false, false, false, false, false, false, false, false, false, false, false] rfl rfl (any_of HT_.out (by kernel_rfl)) (fun _ _ _ h => h) (Or.inl ⟨by rfl, ?_⟩) ?_ ?_
   rotate_left
   ·
    intro w'
    go_simp
    with_reducible rfl
   rotate_left
   ·
    simp only [Act.put, List.setIfInBounds_toArray, List.set_cons_zero, List.set_cons_succ, i64_w, i32_w]
    rfl
   refine pure_ (i := 2) (N := some 16) (v := ?_) (a' := ?_) #[true, false, true, false, false, false, false, false, false, false, false, false, false] rfl rfl (any_of HT_.out (by kernel_rfl)) (fun _ _ _ h => h) (Or.inl ⟨by rfl, ?_⟩) ?_ ?_
   rotate_left
   ·
    intro w'
    go_simp
    with_reducible rfl
   rotate_left
   ·
    simp only [Act.put, List.setIfInBounds_toArray, List.set_cons_zero, List.set_cons_succ, i64_w, i32_w]
    rfl
   refine pure_ (i := 6) (N := some 20) (v := ?_) (a' := ?_) #[true, false, true, false, false, false, true, false, false, false, false, false, false] rfl rfl (any_of HT_.out (by kernel_rfl)) (fun _ _ _ h => h) (Or.inl ⟨by rfl, ?_⟩) ?_ ?_
   rotate_left
   ·
    intro w'
    go_simp
    with_reducible rfl
   rotate_left
   ·
    simp only [Act.put, List.setIfInBounds_toArray, List.set_cons_zero, List.set_cons_succ, i64_w, i32_w]
    rfl
   refine pure_ (i := 8) (N := some 22) (v := ?_) (a' := ?_) #[true, false, true, false, false, false, true, false, true, false, false, false, false] rfl rfl (any_of HT_.out (by kernel_rfl)) (fun _ _ _ h => h) (Or.inl ⟨by rfl, ?_⟩) ?_ ?_
   rotate_left
   ·
    intro w'
    go_simp
    with_reducible rfl
   rotate_left
   ·
    simp only [Act.put, List.setIfInBounds_toArray, List.set_cons_zero, List.set_cons_succ, i64_w, i32_w]
    rfl
   refine inv_at [1, 3, 4, 5, 7, 9, 10, 11, 12] (fun a0_ b a w' => ∃ (v234 : Value) (adz_v234 : Addr) (v242 : Value) (m4_ : Value) (m12_ : Value), a = putSel a0_ b [(1, 15, v234), (3, 17, .int .i64 t236), (4, 18, m4_), (5, 19, .int .i64 (rd y233 t236)), (7, 21, .int .i64 t240), (9, 23, .int .i64 ji7), (10, 24, .int .i64 ji8), (11, 25, v242), (12, 7, m12_)] ∧ (b 3 = false → IsS92 w0 w' g s0_0 t231 t232) ∧ (KeepBut w w' g none) ∧ (Below w0.heap.size w0 w') ∧ (b 1 = true → Kd.R (Kd.int .i64) 3 w' w.heap.size (fun _ => True) v234 y233) ∧ (b 1 = true → ∃ c_, (v234 : Value) = .slice (some adz_v234) y233.length c_) ∧ (b 3 = true → b 11 = false → IsS92 w0 w' g s0_0 t237 t238) ∧ (b 11 = true → Kd.S k26 26 w' w.heap.size (fun _ => True) v242 t241) ∧ (b 11 = true → IsS92 w0 w' g s0_0 t244 t245) ∧ (b 4 = true → (m4_ : Value) = .pointer (some (adz_v234.add (t236).toNat))) ∧ (b 12 = true → (m12_ : Value) = v242)) HT_.out HW_.out (by kernel_rfl) (by kernel_rfl) ?_ ?_ ?_
   ·
    exact ⟨.bool false, ⟨0, 0, none⟩, .bool false, .bool false, .bool false, by simp only [putSel, Bool.false_eq_true, if_false], fun _ => HI0.out, HK.out, HB.out, fun h_ => absurd h_ (by decide), fun h_ => absurd h_ (by decide), fun h_ => absurd h_ (by decide), fun h_ => absurd h_ (by decide), fun h_ => absurd h_ (by decide), fun h_ => absurd h_ (by decide), fun h_ => absurd h_ (by decide)⟩
   ·
    skip
    clear HB HI0 HK
    refine steps_cons ?_ ?_
    ·
     rintro b a w' ⟨v234, adz_v234, v242, m4_, m12_, ha, Q_HI0, Q_HK, Q_HB, Q_HO235, Q_HA_HO235, Q_HI0_e3, Q_HO243, Q_HI0_e11, Q_X4_, Q_X12_⟩ hb_ hon hoff
     refine ⟨_, rfl, fun K hK => ?_⟩
     replace ha := Aside0.mk ha
     have HK := Aside0.mk Q_HK
     have HB := Aside0.mk Q_HB
     refine Kd.R_lit_step (Kd.int .i64) _ 3 ?hg (N := 15) ?hd (xs := ([4, 14, 30] : List Int)) (inner := [.int .i64 4, .int .i64 14, .int .i64 30]) (ok := fun _ => True) (okp := fun _ => True) ?hr ?hp (fun _ hk => hk) trivial (Below.refl _ _) (Nat.le_refl _) (by simp) ?_; (case hd => rfl); (case hg => rfl); (case hr => (go_simp; done)); (case hp => exact (Reps.one (show Kd.M (Kd.int .i64) _ _ _ 4 [.int .i64 4] from rfl) (Reps.one (show Kd.M (Kd.int .i64) _ _ _ 14 [.int .i64 14] from rfl) (Reps.one (show Kd.M (Kd.int .i64) _ _ _ 30 [.int .i64 30] from rfl) (Reps.none _ _)))))
     intro v234 w46 ho47 hb hg_ hnew_
     clear hg_ hnew_
     (rw [← Ny233.out] at ho47)
     have n0_ := Aside0.mk (Kd.R_lower ho47 (keep_size (w := w) (g := g) (row := none) (by repeat ((with_reducible exact HK.out)))))
     have n2_ := Aside0.mk (KeepBut.trans (by repeat ((with_reducible exact HK.out))) (KeepBut.of_below hb g none) (.inl rfl))
     have n3_ := Aside0.mk (below_step (by repeat ((with_reducible exact HB.out))) hb)
     have z_HI0 := fun (h0_ : b 3 = false) => (show IsS92 w0 w46 g s0_0 t231 t232 from by exact (IsS92.below (by repeat ((with_reducible exact (Q_HI0 h0_)))) hb))
     have z_HI0_e3 := fun (h0_ : b 3 = true) (h1_ : b 11 = false) => (show IsS92 w0 w46 g s0_0 t237 t238 from by exact (IsS92.below (by repeat ((with_reducible exact (Q_HI0_e3 h0_ h1_)))) hb))
     clear HK
     clear HB
     have HO235 := n0_
     have HK := n2_
     have HB := n3_
     clear n0_ n2_ n3_
     clear hb ho47
     obtain ⟨Ao48, co48, eo48⟩ := Kd.R_slice HO235.out
     subst eo48
     obtain ⟨ado48, fo48, _⟩ := Kd.at_int (Kd.R_reads' HO235.out).2.2 0 (by decide) (by rw [Ny233.out]; simp)
     cases fo48
     refine hK.out _ _ ⟨.slice (some ado48) y233.length co48, ado48, v242, m4_, m12_, (by rw [ha.out]; exact putSel_upk 0 hb_ rfl rfl rfl), z_HI0, (by repeat ((with_reducible exact HK.out))), (by repeat ((with_reducible exact HB.out))), fun _ => (by (with_reducible repeat (first | apply Kd.R_alloc | apply Kd.R_drewN | apply Kd.R_drew)); exact HO235.out), fun _ => ⟨_, rfl⟩, z_HI0_e3, fun h0_ => absurd ((hoff 11 (by kernel_rfl)).symm.trans h0_) (by decide), fun h0_ => absurd ((hoff 11 (by kernel_rfl)).symm.trans h0_) (by decide), fun h0_ => absurd ((hoff 4 (by kernel_rfl)).symm.trans h0_) (by decide), fun h0_ => absurd ((hoff 12 (by kernel_rfl)).symm.trans h0_) (by decide)⟩
    refine steps_cons ?_ ?_
    ·
     rintro b a w' ⟨v234, adz_v234, v242, m4_, m12_, ha, Q_HI0, Q_HK, Q_HB, Q_HO235, Q_HA_HO235, Q_HI0_e3, Q_HO243, Q_HI0_e11, Q_X4_, Q_X12_⟩ hb_ hon hoff
     refine ⟨_, rfl, fun K hK => ?_⟩
     have e16 : a.tmps[16]? = some (.pointer (some ⟨g, 0, none⟩)) := by rw [ha]; exact (putSel_off rfl).trans rfl
     replace ha := Aside0.mk ha
     have HI0 := Aside0.mk (Q_HI0 hb_)
     have HK := Aside0.mk Q_HK
     have HB := Aside0.mk Q_HB
     refine goes_ Try.func82 (by kernel_rfl) rfl #[.pointer (some ⟨g, 0, none⟩), .int .i64 3] (by rfl) rfl rfl (by (simp only [List.map_toArray, List.map_cons, List.map_nil, Act.eval, Array.getD_eq_getD_getElem?, Option.getD_some, e16]; done)) ?_
     with_reducible refine (spec_l01Cur_pick.calls g s0_0 t231 t232 3 t236 t237 t238 w0 _ ?side1 ?side2 A3.out).mono ?_
     (case side1 => repeat ((with_reducible exact HI0.out)))
     (case side2 => repeat ((with_reducible exact HB.out)))
     rintro e w46 ⟨rfl, hi, hb, hk⟩
     refine ⟨_, rfl, ?_⟩
     have n0_ := Aside0.mk (KeepBut.trans (by repeat ((with_reducible exact HK.out))) hk (.inl rfl))
     have n1_ := Aside0.mk (hb)
     have n2_ := Aside0.mk (hi)
     have z_HO235 := fun (h0_ : b 1 = true) => (show Kd.R (Kd.int .i64) 3 w46 w.heap.size (fun _ => True) v234 y233 from by exact (Kd.R_mono (Kd.R_keep (IsS92.apart (show IsS92 w0 _ g s0_0 t231 t232 from by repeat ((with_reducible exact HI0.out))) (by (with_reducible repeat (first | apply Kd.R_alloc | apply Kd.R_drewN | apply Kd.R_drew)); exact (Q_HO235 h0_)) (by decide)) hk (fun _ h => h.2)) (fun _ h => h.1)))
     clear HK
     clear HB
     clear HI0
     have HK := n0_
     have HB := n1_
     have HI0 := n2_
     clear n0_ n1_ n2_
     (try clear hb)
     (try clear hb2)
     (try clear hk)
     (try clear hi)
     refine hK.out _ _ ⟨v234, adz_v234, v242, m4_, m12_, (by rw [ha.out]; exact putSel_upk 1 hb_ rfl rfl rfl), fun h0_ => absurd ((up_self b 3).symm.trans h0_) (by decide), (by repeat ((with_reducible exact HK.out))), (by repeat ((with_reducible exact HB.out))), z_HO235, Q_HA_HO235, fun _ _ => (by repeat ((with_reducible exact HI0.out))), fun h0_ => absurd ((hoff 11 (by kernel_rfl)).symm.trans h0_) (by decide), fun h0_ => absurd ((hoff 11 (by kernel_rfl)).symm.trans h0_) (by decide), fun h0_ => absurd ((hoff 4 (by kernel_rfl)).symm.trans h0_) (by decide), fun h0_ => absurd ((hoff 12 (by kernel_rfl)).symm.trans h0_) (by decide)⟩
    refine steps_cons ?_ ?_
    ·
     rintro b a w' ⟨v234, adz_v234, v242, m4_, m12_, ha, Q_HI0, Q_HK, Q_HB, Q_HO235, Q_HA_HO235, Q_HI0_e3, Q_HO243, Q_HI0_e11, Q_X4_, Q_X12_⟩ hb_ hon hoff
     refine ⟨_, rfl, fun K hK => ?_⟩
     have e15 : a.tmps[15]? = some (v234) := by rw [ha]; exact putSel_on (e := (1, 15, v234)) 0 rfl rfl (hon 1 (by kernel_rfl)) rfl
     have e17 : a.tmps[17]? = some (.int .i64 t236) := by rw [ha]; exact putSel_on (e := (3, 17, .int .i64 t236)) 1 rfl rfl (hon 3 (by kernel_rfl)) rfl
     replace ha := Aside0.mk ha
     have HK := Aside0.mk Q_HK
     have HB := Aside0.mk Q_HB
     have HO235 := Aside0.mk (Q_HO235 (hon 1 (by kernel_rfl)))
     have HA_HO235 := Aside0.mk (Q_HA_HO235 (hon 1 (by kernel_rfl)))
     have HI0 := Aside0.mk (Q_HI0_e3 (hon 3 (by kernel_rfl)) (hoff 11 (by kernel_rfl)))
     obtain ⟨c_, hv_⟩ := HA_HO235.out
     rw [hv_] at e15
     refine value_ (w1 := w') (v := .pointer (some (adz_v234.add (t236).toNat))) (by rfl) rfl ?_ ?_
     ·
      go_simp
      (try simp only [i64_w])
      try rfl
     refine hK.out _ _ ⟨v234, adz_v234, v242, (.pointer (some (adz_v234.add (t236).toNat))), m12_, (by rw [ha.out]; exact putSel_upk 2 hb_ rfl rfl rfl), fun h0_ => absurd ((hon 3 (by kernel_rfl)).symm.trans h0_) (by decide), Q_HK, Q_HB, Q_HO235, Q_HA_HO235, Q_HI0_e3, fun h0_ => absurd ((hoff 11 (by kernel_rfl)).symm.trans h0_) (by decide), fun h0_ => absurd ((hoff 11 (by kernel_rfl)).symm.trans h0_) (by decide), fun _ => rfl, fun h0_ => absurd ((hoff 12 (by kernel_rfl)).symm.trans h0_) (by decide)⟩
    refine steps_cons ?_ ?_
    ·
     rintro b a w' ⟨v234, adz_v234, v242, m4_, m12_, ha, Q_HI0, Q_HK, Q_HB, Q_HO235, Q_HA_HO235, Q_HI0_e3, Q_HO243, Q_HI0_e11, Q_X4_, Q_X12_⟩ hb_ hon hoff
     refine ⟨_, rfl, fun K hK => ?_⟩
     have e18 : a.tmps[18]? = some (m4_) := by rw [ha]; exact putSel_on (e := (4, 18, m4_)) 2 rfl rfl (hon 4 (by kernel_rfl)) rfl
     rw [Q_X4_ (hon 4 (by kernel_rfl))] at e18
     replace ha := Aside0.mk ha
     have HK := Aside0.mk Q_HK
     have HB := Aside0.mk Q_HB
     have HO235 := Aside0.mk (Q_HO235 (hon 1 (by kernel_rfl)))
     have HA_HO235 := Aside0.mk (Q_HA_HO235 (hon 1 (by kernel_rfl)))
     have HI0 := Aside0.mk (Q_HI0_e3 (hon 3 (by kernel_rfl)) (hoff 11 (by kernel_rfl)))
     obtain ⟨c_, hv_⟩ := HA_HO235.out
     have hF_ := HO235.out
     rw [hv_] at hF_
     obtain ⟨ad_, ea_, hx_⟩ := Kd.at_int (Kd.R_reads' hF_).2.2 t236 (of_eq_true pi239) (of_eq_true qi239)
     cases ea_
     refine value_ (w1 := w') (v := .int .i64 (rd y233 t236)) (by rfl) rfl ?_ ?_
     ·
      go_simp
      (try simp only [i64_w])
      try rfl
     refine hK.out _ _ ⟨v234, adz_v234, v242, m4_, m12_, (by rw [ha.out]; exact putSel_upk 3 hb_ rfl rfl rfl), fun h0_ => absurd ((hon 3 (by kernel_rfl)).symm.trans h0_) (by decide), Q_HK, Q_HB, Q_HO235, Q_HA_HO235, Q_HI0_e3, fun h0_ => absurd ((hoff 11 (by kernel_rfl)).symm.trans h0_) (by decide), fun h0_ => absurd ((hoff 11 (by kernel_rfl)).symm.trans h0_) (by decide), Q_X4_, fun h0_ => absurd ((hoff 12 (by kernel_rfl)).symm.trans h0_) (by decide)⟩
    refine steps_cons ?_ ?_
    ·
     rintro b a w' ⟨v234, adz_v234, v242, m4_, m12_, ha, Q_HI0, Q_HK, Q_HB, Q_HO235, Q_HA_HO235, Q_HI0_e3, Q_HO243, Q_HI0_e11, Q_X4_, Q_X12_⟩ hb_ hon hoff
     refine ⟨_, rfl, fun K hK => ?_⟩
     have e20 : a.tmps[20]? = some (.int .i64 t229) := by rw [ha]; exact (putSel_off rfl).trans rfl
     replace ha := Aside0.mk ha
     have HK := Aside0.mk Q_HK
     have HB := Aside0.mk Q_HB
     have HI0 := Aside0.mk (Q_HI0_e3 (hon 3 (by kernel_rfl)) (hoff 11 (by kernel_rfl)))
     refine goes_ Try.func57 (by kernel_rfl) rfl #[.int .i64 t229] (by rfl) rfl rfl (by (simp only [List.map_toArray, List.map_cons, List.map_nil, Act.eval, Array.getD_eq_getD_getElem?, Option.getD_some, e20]; done)) ?_
     with_reducible refine (spec_l12Clip.calls t229 t240 _ A6.out).mono ?_
     rintro e w48 ⟨rfl, hb⟩
     refine ⟨_, rfl, ?_⟩
     have n0_ := Aside0.mk (IsS92.below (by repeat ((with_reducible exact HI0.out))) hb)
     have n1_ := Aside0.mk (KeepBut.trans (by repeat ((with_reducible exact HK.out))) (KeepBut.of_below hb g none) (.inl rfl))
     have n2_ := Aside0.mk (below_step (by repeat ((with_reducible exact HB.out))) hb)
     have z_HO235 := fun (h0_ : b 1 = true) => (show Kd.R (Kd.int .i64) 3 w48 w.heap.size (fun _ => True) v234 y233 from by exact (Kd.R_below (by (with_reducible repeat (first | apply Kd.R_alloc | apply Kd.R_drewN | apply Kd.R_drew)); exact (Q_HO235 h0_)) hb))
     clear HI0
     clear HK
     clear HB
     have HI0 := n0_
     have HK := n1_
     have HB := n2_
     clear n0_ n1_ n2_
     (try clear hb)
     (try clear hb2)
     (try clear hk)
     (try clear hi)
     refine hK.out _ _ ⟨v234, adz_v234, v242, m4_, m12_, (by rw [ha.out]; exact putSel_upk 4 hb_ rfl rfl rfl), fun h0_ => absurd ((hon 3 (by kernel_rfl)).symm.trans h0_) (by decide), (by repeat ((with_reducible exact HK.out))), (by repeat ((with_reducible exact HB.out))), z_HO235, Q_HA_HO235, fun _ _ => (by repeat ((with_reducible exact HI0.out))), fun h0_ => absurd ((hoff 11 (by kernel_rfl)).symm.trans h0_) (by decide), fun h0_ => absurd ((hoff 11 (by kernel_rfl)).symm.trans h0_) (by decide), Q_X4_, fun h0_ => absurd ((hoff 12 (by kernel_rfl)).symm.trans h0_) (by decide)⟩
    refine steps_cons ?_ ?_
    ·
     rintro b a w' ⟨v234, adz_v234, v242, m4_, m12_, ha, Q_HI0, Q_HK, Q_HB, Q_HO235, Q_HA_HO235, Q_HI0_e3, Q_HO243, Q_HI0_e11, Q_X4_, Q_X12_⟩ hb_ hon hoff
     refine ⟨_, rfl, fun K hK => ?_⟩
     have e22 : a.tmps[22]? = some (.int .i64 t230) := by rw [ha]; exact (putSel_off rfl).trans rfl
     replace ha := Aside0.mk ha
     have HK := Aside0.mk Q_HK
     have HB := Aside0.mk Q_HB
     refine value_ (w1 := w') (v := .int .i64 ji7) (by rfl) rfl ?_ ?_
     ·
      go_simp
      (try simp only [i64_w])
      try rfl
     refine hK.out _ _ ⟨v234, adz_v234, v242, m4_, m12_, (by rw [ha.out]; exact putSel_upk 5 hb_ rfl rfl rfl), Q_HI0, Q_HK, Q_HB, Q_HO235, Q_HA_HO235, Q_HI0_e3, fun h0_ => absurd ((hoff 11 (by kernel_rfl)).symm.trans h0_) (by decide), fun h0_ => absurd ((hoff 11 (by kernel_rfl)).symm.trans h0_) (by decide), Q_X4_, fun h0_ => absurd ((hoff 12 (by kernel_rfl)).symm.trans h0_) (by decide)⟩
    refine steps_cons ?_ ?_
    ·
     rintro b a w' ⟨v234, adz_v234, v242, m4_, m12_, ha, Q_HI0, Q_HK, Q_HB, Q_HO235, Q_HA_HO235, Q_HI0_e3, Q_HO243, Q_HI0_e11, Q_X4_, Q_X12_⟩ hb_ hon hoff
     refine ⟨_, rfl, fun K hK => ?_⟩
     have e23 : a.tmps[23]? = some (.int .i64 ji7) := by rw [ha]; exact putSel_on (e := (9, 23, .int .i64 ji7)) 5 rfl rfl (hon 9 (by kernel_rfl)) rfl
     replace ha := Aside0.mk ha
     have HK := Aside0.mk Q_HK
     have HB := Aside0.mk Q_HB
     refine value_ (w1 := w') (v := .int .i64 ji8) (by rfl) rfl ?_ ?_
     ·
      go_simp
      (try simp only [i64_w])
      try rfl
     refine hK.out _ _ ⟨v234, adz_v234, v242, m4_, m12_, (by rw [ha.out]; exact putSel_upk 6 hb_ rfl rfl rfl), Q_HI0, Q_HK, Q_HB, Q_HO235, Q_HA_HO235, Q_HI0_e3, fun h0_ => absurd ((hoff 11 (by kernel_rfl)).symm.trans h0_) (by decide), fun h0_ => absurd ((hoff 11 (by kernel_rfl)).symm.trans h0_) (by decide), Q_X4_, fun h0_ => absurd ((hoff 12 (by kernel_rfl)).symm.trans h0_) (by decide)⟩
    refine steps_cons ?_ ?_
    ·
     rintro b a w' ⟨v234, adz_v234, v242, m4_, m12_, ha, Q_HI0, Q_HK, Q_HB, Q_HO235, Q_HA_HO235, Q_HI0_e3, Q_HO243, Q_HI0_e11, Q_X4_, Q_X12_⟩ hb_ hon hoff
     refine ⟨_, rfl, fun K hK => ?_⟩
     have e14 : a.tmps[14]? = some (.pointer (some ⟨g, 0, none⟩)) := by rw [ha]; exact (putSel_off rfl).trans rfl
     have e19 : a.tmps[19]? = some (.int .i64 (rd y233 t236)) := by rw [ha]; exact putSel_on (e := (5, 19, .int .i64 (rd y233 t236))) 3 rfl rfl (hon 5 (by kernel_rfl)) rfl
     have e21 : a.tmps[21]? = some (.int .i64 t240) := by rw [ha]; exact putSel_on (e := (7, 21, .int .i64 t240)) 4 rfl rfl (hon 7 (by kernel_rfl)) rfl
     have e24 : a.tmps[24]? = some (.int .i64 ji8) := by rw [ha]; exact putSel_on (e := (10, 24, .int .i64 ji8)) 6 rfl rfl (hon 10 (by kernel_rfl)) rfl
     replace ha := Aside0.mk ha
     have HK := Aside0.mk Q_HK
     have HB := Aside0.mk Q_HB
     have HO235 := Aside0.mk (Q_HO235 (hon 1 (by kernel_rfl)))
     have HA_HO235 := Aside0.mk (Q_HA_HO235 (hon 1 (by kernel_rfl)))
     have HI0 := Aside0.mk (Q_HI0_e3 (hon 3 (by kernel_rfl)) hb_)
     obtain ⟨co52, eo52⟩ := HA_HO235.out
     clear HA_HO235
     subst eo52
     refine goes_ Try.func56 (by kernel_rfl) rfl #[.pointer (some ⟨g, 0, none⟩), .int .i64 (rd y233 t236), .int .i64 t240, .int .i64 ji8] (by rfl) rfl rfl (by (simp only [List.map_toArray, List.map_cons, List.map_nil, Act.eval, Array.getD_eq_getD_getElem?, Option.getD_some, e14, e19, e21, e24]; done)) ?_
     with_reducible refine (spec_l01Cur_blocks.calls k g s0_0 t237 t238 (rd y233 t236) t240 ji8 t241 t244 t245 w0 _ ?side1 ?side2 A9.out).mono ?_
     (case side1 => repeat ((with_reducible exact HI0.out)))
     (case side2 => repeat ((with_reducible exact HB.out)))
     rintro e w53 ⟨v242, rfl, ho0, hi, hb, hk⟩
     refine ⟨_, rfl, ?_⟩
     have HO243 := Aside0.mk (Kd.S_lower ho0 (keep_size (w := w) (g := g) (row := none) (by repeat ((with_reducible exact HK.out)))))
     replace HO235 := Aside0.mk (Kd.R_mono (Kd.R_keep (IsS92.apart (show IsS92 w0 _ g s0_0 t237 t238 from by repeat ((with_reducible exact HI0.out))) (by (with_reducible repeat (first | apply Kd.R_alloc | apply Kd.R_drewN | apply Kd.R_drew)); exact HO235.out) (by decide)) hk (fun _ h => h.2)) (fun _ h => h.1))
     replace HK := Aside0.mk (KeepBut.trans (by repeat ((with_reducible exact HK.out))) hk (.inl rfl))
     replace HB := Aside0.mk (hb)
     replace HI0 := Aside0.mk (hi)
     (try clear hb)
     (try clear hb2)
     (try clear hk)
     (try clear hi)
     (try clear ho0)
     refine hK.out _ _ ⟨.slice (some adz_v234) y233.length co52, adz_v234, v242, m4_, m12_, (by rw [ha.out]; exact putSel_upk 7 hb_ rfl rfl rfl), fun h0_ => absurd ((hon 3 (by kernel_rfl)).symm.trans h0_) (by decide), (by repeat ((with_reducible exact HK.out))), (by repeat ((with_reducible exact HB.out))), fun _ => (by (with_reducible repeat (first | apply Kd.R_alloc | apply Kd.R_drewN | apply Kd.R_drew)); exact HO235.out), fun _ => ⟨_, rfl⟩, fun _ h1_ => absurd ((up_self b 11).symm.trans h1_) (by decide), fun _ => (by (with_reducible repeat (first | apply Kd.S_alloc | apply Kd.S_drewN | apply Kd.S_drew)); exact HO243.out), fun _ => (by repeat ((with_reducible exact HI0.out))), Q_X4_, fun h0_ => absurd ((hoff 12 (by kernel_rfl)).symm.trans h0_) (by decide)⟩
    refine steps_cons ?_ ?_
    ·
     rintro b a w' ⟨v234, adz_v234, v242, m4_, m12_, ha, Q_HI0, Q_HK, Q_HB, Q_HO235, Q_HA_HO235, Q_HI0_e3, Q_HO243, Q_HI0_e11, Q_X4_, Q_X12_⟩ hb_ hon hoff
     refine ⟨_, rfl, fun K hK => ?_⟩
     have e25 : a.tmps[25]? = some (v242) := by rw [ha]; exact putSel_on (e := (11, 25, v242)) 7 rfl rfl (hon 11 (by kernel_rfl)) rfl
     replace ha := Aside0.mk ha
     have HK := Aside0.mk Q_HK
     have HB := Aside0.mk Q_HB
     have HO235 := Aside0.mk (Q_HO235 (hon 1 (by kernel_rfl)))
     have HA_HO235 := Aside0.mk (Q_HA_HO235 (hon 1 (by kernel_rfl)))
     have HO243 := Aside0.mk (Q_HO243 (hon 11 (by kernel_rfl)))
     have HI0 := Aside0.mk (Q_HI0_e11 (hon 11 (by kernel_rfl)))
     refine value_ (w1 := w') (v := v242) (by rfl) rfl ?_ ?_
     ·
      go_simp
      (try simp only [i64_w])
      try rfl
     refine hK.out _ _ ⟨v234, adz_v234, v242, m4_, (v242), (by rw [ha.out]; exact putSel_upk 8 hb_ rfl rfl rfl), fun h0_ => absurd ((hon 3 (by kernel_rfl)).symm.trans h0_) (by decide), Q_HK, Q_HB, Q_HO235, Q_HA_HO235, fun _ h1_ => absurd ((hon 11 (by kernel_rfl)).symm.trans h1_) (by decide), Q_HO243, Q_HI0_e11, Q_X4_, fun _ => rfl⟩
    exact steps_nil
   rintro b a w52 hall ⟨v234, adz_v234, v242, m4_, m12_, ha, Q_HI0, Q_HK, Q_HB, Q_HO235, Q_HA_HO235, Q_HI0_e3, Q_HO243, Q_HI0_e11, Q_X4_, Q_X12_⟩
   clear HB HI0 HK
   have hb1_ := hall 1 (by kernel_rfl)
   have hb3_ := hall 3 (by kernel_rfl)
   have hb4_ := hall 4 (by kernel_rfl)
   have hb5_ := hall 5 (by kernel_rfl)
   have hb7_ := hall 7 (by kernel_rfl)
   have hb9_ := hall 9 (by kernel_rfl)
   have hb10_ := hall 10 (by kernel_rfl)
   have hb11_ := hall 11 (by kernel_rfl)
   have hb12_ := hall 12 (by kernel_rfl)
   subst ha
   obtain rfl := Q_X4_ hb4_
   obtain rfl := Q_X12_ hb12_
   simp only [putSel, hb1_, hb3_, hb4_, hb5_, hb7_, hb9_, hb10_, hb11_, hb12_, if_true, Act.put, List.setIfInBounds_toArray, List.set_cons_zero, List.set_cons_succ]
   clear Q_HI0
   have HK := Aside0.mk Q_HK
   clear Q_HK
   have HB := Aside0.mk Q_HB
   clear Q_HB
   have HO235 := Aside0.mk (Q_HO235 hb1_)
   clear Q_HO235
   have HA_HO235 := Aside0.mk (Q_HA_HO235 hb1_)
   clear Q_HA_HO235
   clear Q_HI0_e3
   have HO243 := Aside0.mk (Q_HO243 hb11_)
   clear Q_HO243
   have HI0 := Aside0.mk (Q_HI0_e11 hb11_)
   clear Q_HI0_e11
   clear hall hb1_ hb3_ hb4_ hb5_ hb7_ hb9_ hb10_ hb11_ hb12_
   obtain ⟨co53, eo53⟩ := HA_HO235.out
   clear HA_HO235
   subst eo53
   try go_wp2_with (first | ((with_reducible refine gate_callee (f := 80) rfl ?_); refine goesL_ (some 27) rfl rfl Try.func80 (by kernel_rfl) rfl #[.pointer (some ⟨g, 0, none⟩), .int .i64 5] rfl (by (try simp only [List.map_toArray, List.map_cons, List.map_nil]); rfl) ?_; (with_reducible refine (spec_l01Cur_once.calls g s0_0 t244 t245 5 true t247 t248 w0 _ ?side1 ?side2 A10.out).mono ?_); (case side1 => repeat ((with_reducible exact HI0.out))); (case side2 => repeat ((with_reducible exact HB.out))); rintro e w54 ⟨rfl, hi, hb, hk⟩; refine ⟨_, rfl, ?_⟩; have n0_ := Aside0.mk (Kd.R_mono (Kd.R_keep (IsS92.apart (show IsS92 w0 _ g s0_0 t244 t245 from by repeat ((with_reducible exact HI0.out))) (by (with_reducible repeat (first | apply Kd.R_alloc | apply Kd.R_drewN | apply Kd.R_drew)); exact HO235.out) (by decide)) hk (fun _ h => h.2)) (fun _ h => h.1)); have n1_ := Aside0.mk (Kd.S_mono (Kd.S_keep (IsS92.apartS (show IsS92 w0 _ g s0_0 t244 t245 from by repeat ((with_reducible exact HI0.out))) (by (with_reducible repeat (first | apply Kd.S_alloc | apply Kd.S_drewN | apply Kd.S_drew)); exact HO243.out) (by decide)) hk (fun _ h => h.2)) (fun _ h => h.1)); have n2_ := Aside0.mk (KeepBut.trans (by repeat ((with_reducible exact HK.out))) hk (.inl rfl)); have n3_ := Aside0.mk (hb); have n4_ := Aside0.mk (hi); clear HO235; clear HO243; clear HK; clear HB; clear HI0; have HO235 := n0_; have HO243 := n1_; have HK := n2_; have HB := n3_; have HI0 := n4_; clear n0_ n1_ n2_ n3_ n4_; (try clear hb); (try clear hb2); (try clear hk); (try clear hi); obtain ⟨Ao55, co55, eo55⟩ := Kd.S_slice HO243.out; subst eo55) | ((with_reducible refine gate_callee (f := 55) rfl ?_); refine goesL_ (some 30) rfl rfl Try.func55 (by kernel_rfl) rfl #[.pointer (some ⟨g, 0, none⟩), .slice Ao55 t241.length co55] rfl (by (try simp only [List.map_toArray, List.map_cons, List.map_nil]); rfl) ?_; (with_reducible refine (spec_l01Cur_badBlocks.calls k g s0_0 t247 t248 (fun k_ => w.heap.size ≤ k_) (.slice Ao55 t241.length co55) t241 t249 t252 t253 w0 _ ?side1 ?side2 ?side3 A12.out).mono ?_); (case side1 => repeat ((with_reducible exact HI0.out))); (case side2 => repeat ((with_reducible exact HB.out))); (case side3 => exact Kd.S_lower (Kd.S_mono (Kd.S_bound HO243.out) (fun _ h_ => h_.2.1)) HL.out); rintro e w56 ⟨v250, rfl, ho0, hi, hb, hkp⟩; refine ⟨_, rfl, ?_⟩; have n0_ := Aside0.mk (hi); have n1_ := Aside0.mk (Kd.S_mono (ok' := fun k_ => True) (blocks_raise (b' := w.heap.size) ho0 (fun k_ e_ => Or.elim e_ (fun hs_ => hs_) (fun hn_ => Nat.le_trans (keep_size (w := w) (g := g) (row := none) (by repeat ((with_reducible exact HK.out)))) hn_))) (fun k_ hk_ => trivial)); have n2_ := Aside0.mk (Kept.keepG (by repeat ((with_reducible exact HK.out))) hkp (fun k_ hs_ => Or.elim hs_ (fun hs_ => .inr hs_) (fun e_ => .inl e_))); have n3_ := Aside0.mk (hb); clear HI0; clear HK; clear HB; clear HO235; clear HO243; have HI0 := n0_; have HO251 := n1_; have HK := n2_; have HB := n3_; clear n0_ n1_ n2_ n3_; (try clear hb); (try clear hkp); (try clear ho0)) | ((with_reducible refine gate_callee (f := 80) rfl ?_); refine goesL_ (some 32) rfl rfl Try.func80 (by kernel_rfl) rfl #[.pointer (some ⟨g, 0, none⟩), .int .i64 20] rfl (by (try simp only [List.map_toArray, List.map_cons, List.map_nil]); rfl) ?_; (with_reducible refine (spec_l01Cur_once.calls g s0_0 t252 t253 20 false t255 t256 w0 _ ?side1 ?side2 A13.out).mono ?_); (case side1 => repeat ((with_reducible exact HI0.out))); (case side2 => repeat ((with_reducible exact HB.out))); rintro e w57 ⟨rfl, hi, hb, hk⟩; refine ⟨_, rfl, ?_⟩; have n0_ := Aside0.mk (Kd.S_mono (Kd.S_keep (IsS92.apartS (show IsS92 w0 _ g s0_0 t252 t253 from by repeat ((with_reducible exact HI0.out))) (by (with_reducible repeat (first | apply Kd.S_alloc | apply Kd.S_drewN | apply Kd.S_drew)); exact HO251.out) (by decide)) hk (fun _ h => h.2)) (fun _ h => h.1)); have n1_ := Aside0.mk (KeepBut.trans (by repeat ((with_reducible exact HK.out))) hk (.inl rfl)); have n2_ := Aside0.mk (hb); have n3_ := Aside0.mk (hi); clear HO251; clear HK; clear HB; clear HI0; have HO251 := n0_; have HK := n1_; have HB := n2_; have HI0 := n3_; clear n0_ n1_ n2_ n3_; (try clear hb); (try clear hb2); (try clear hk); (try clear hi)))
   go_ret3
   exact ⟨_, by rfl, by (with_reducible repeat (first | apply Kd.S_alloc | apply Kd.S_drewN | apply Kd.S_drew)); exact HO251.out, by repeat ((with_reducible exact HI0.out)), by repeat ((with_reducible exact HB.out)), by repeat ((with_reducible exact HK.out))⟩
  subst c14
  have H1 : (spec_l01Cur_stash.l0 k t229 t230 (([] : List (S26))) 0 s0_0 t255 t256) = some (r1, r2, r3, r4, r5) := by rw [if_pos rfl] at H; exact H
  clear H
  have H := H1
  clear H1
  obtain ⟨y257, hy257⟩ : ∃ y_ : List (S26), y_ = (([] : List (S26))) := ⟨_, rfl⟩
  replace H : (spec_l01Cur_stash.l0 k t229 t230 y257 0 s0_0 t255 t256) = some (r1, r2, r3, r4, r5) := by (rw [hy257]; with_reducible exact H)
  have Ny257 := Aside0.mk hy257
  clear hy257
  have H' := Aside0.mk H
  clear H
  go_enter Try.func68, Try.ntmps68
  try go_wp2_with (((with_reducible refine gate_callee (f := 54) rfl ?_); refine goesL_ (some 11) rfl rfl Try.func54 (by kernel_rfl) rfl #[.pointer (some ⟨g, 0, none⟩)] rfl (by (try simp only [List.map_toArray, List.map_cons, List.map_nil]); rfl) ?_; (with_reducible refine (spec_l01Cur_frame.calls g s0_0 s0_1 s0_2 t229 t230 t231 t232 w0 _ ?side1 ?side2 A2.out).mono ?_); (case side1 => repeat ((with_reducible exact HI0.out))); (case side2 => repeat ((with_reducible exact HB.out))); rintro e w15 ⟨rfl, hi, hb, hk⟩; refine ⟨_, rfl, ?_⟩; have n0_ := Aside0.mk (KeepBut.trans (by repeat ((with_reducible exact HK.out))) hk (.inl rfl)); have n1_ := Aside0.mk (hb); have n2_ := Aside0.mk (hi); clear HK; clear HB; clear HI0; have HK := n0_; have HB := n1_; have HI0 := n2_; clear n0_ n1_ n2_; (try clear hb); (try clear hb2); (try clear hk); (try clear hi)))
  have pi239 : (0 ≤ (t236 : Int)) = True := eq_true (of_decide_eq_true (by (with_reducible assumption)))
  have qi239 : (t236 < (y233.length : Int)) = True := eq_true (of_decide_eq_true (by (with_reducible assumption)))
  replace HI0 := Aside0.mk (IsS92.drew HI0.out)
  replace HK := Aside0.mk (keep_drew HK.out)
  replace HB := Aside0.mk (below_drew1 HB.out)
  refine start_ (n := 13) (S := fun w' => True) (ds := []) #[false, false, false, false, false, false, false, false, false, false, false, false, false] (by kernel_rfl) rfl rfl trivial (fun hHeld => ?_); refine with_tabW spec_l01Cur_stash.tab2 spec_l01Cur_stash.bits2 (fun HT_ HW_ => ?_)
  generalize w15.drew = w16 at HI0 HK HB hHeld ⊢
  refine pure_ (i := 0) (N := some 14) (v := ?_) (a' := ?_) #[true, false, false, false, false, false, false, false, false, false, false, false, false] rfl rfl (any_of HT_.out (by kernel_rfl)) (fun _ _ _ h => h) (Or.inl ⟨by rfl, ?_⟩) ?_ ?_
  rotate_left
  ·
   intro w'
   go_simp
   with_reducible rfl
  rotate_left
  ·
   simp only [Act.put, List.setIfInBounds_toArray, List.set_cons_zero, List.set_cons_succ, i64_w, i32_w]
   rfl
  refine pure_ (i := 2) (N := some 16) (v := ?_) (a' := ?_) #[true, false, true, false, false, false, false, false, false, false, false, false, false] rfl rfl (any_of HT_.out (by kernel_rfl)) (fun _ _ _ h => h) (Or.inl ⟨by rfl, ?_⟩) ?_ ?_
  rotate_left
  ·
   intro w'
   go_simp
   with_reducible rfl
  rotate_left
  ·
   simp only [Act.put, List.setIfInBounds_toArray, List.set_cons_zero, List.set_cons_succ, i64_w, i32_w]
   rfl
  refine pure_ (i := 6) (N := some 20) (v := ?_) (a' := ?_) #[true, false, true, false, false, false, true, false, false, false, false, false, false] rfl rfl (any_of HT_.out (by kernel_rfl)) (fun _ _ _ h => h) (Or.inl ⟨by rfl, ?_⟩) ?_ ?_
  rotate_left
  ·
   intro w'
   go_simp
   with_reducible rfl
  rotate_left
  ·
   simp only [Act.put, List.setIfInBounds_toArray, List.set_cons_zero, List.set_cons_succ, i64_w, i32_w]
   rfl
  refine pure_ (i := 8) (N := some 22) (v := ?_) (a' := ?_) #[true, false, true, false, false, false, true, false, true, false, false, false, false] rfl rfl (any_of HT_.out (by kernel_rfl)) (fun _ _ _ h => h) (Or.inl ⟨by rfl, ?_⟩) ?_ ?_
  rotate_left
  ·
   intro w'
   go_simp
   with_reducible rfl
  rotate_left
  ·
   simp only [Act.put, List.setIfInBounds_toArray, List.set_cons_zero, List.set_cons_succ, i64_w, i32_w]
   rfl
  refine inv_at [1, 3, 4, 5, 7, 9, 10, 11, 12] (fun a0_ b a w' => ∃ (v234 : Value) (adz_v234 : Addr) (v242 : Value) (m4_ : Value) (m12_ : Value), a = putSel a0_ b [(1, 15, v234), (3, 17, .int .i64 t236), (4, 18, m4_), (5, 19, .int .i64 (rd y233 t236)), (7, 21, .int .i64 t240), (9, 23, .int .i64 ji7), (10, 24, .int .i64 ji8), (11, 25, v242), (12, 7, m12_)] ∧ (b 3 = false → IsS92 w0 w' g s0_0 t231 t232) ∧ (KeepBut w w' g none) ∧ (Below w0.heap.size w0 w') ∧ (b 1 = true → Kd.R (Kd.int .i64) 3 w' w.heap.size (fun _ => True) v234 y233) ∧ (b 1 = true → ∃ c_, (v234 : Value) = .slice (some adz_v234) y233.length c_) ∧ (b 3 = true → b 11 = false → IsS92 w0 w' g s0_0 t237 t238) ∧ (b 11 = true → Kd.S k26 26 w' w.heap.size (fun _ => True) v242 t241) ∧ (b 11 = true → IsS92 w0 w' g s0_0 t244 t245) ∧ (b 4 = true → (m4_ : Value) = .pointer (some (adz_v234.add (t236).toNat))) ∧ (b 12 = true → (m12_ : Value) = v242)) HT_.out HW_.out (by kernel_rfl) (by kernel_rfl) ?_ ?_ ?_
  ·
   exact ⟨.bool false, ⟨0, 0, none⟩, .bool false, .bool false, .bool false, by simp only [putSel, Bool.false_eq_true, if_false], fun _ => HI0.out, HK.out, HB.out, fun h_ => absurd h_ (by decide), fun h_ => absurd h_ (by decide), fun h_ => absurd h_ (by decide), fun h_ => absurd h_ (by decide), fun h_ => absurd h_ (by decide), fun h_ => absurd h_ (by decide), fun h_ => absurd h_ (by decide)⟩
  ·
   skip
   clear HB HI0 HK
   refine steps_cons ?_ ?_
   ·
    rintro b a w' ⟨v234, adz_v234, v242, m4_, m12_, ha, Q_HI0, Q_HK, Q_HB, Q_HO235, Q_HA_HO235, Q_HI0_e3, Q_HO243, Q_HI0_e11, Q_X4_, Q_X12_⟩ hb_ hon hoff
    refine ⟨_, rfl, fun K hK => ?_⟩
    replace ha := Aside0.mk ha
    have HK := Aside0.mk Q_HK
    have HB := Aside0.mk Q_HB
    refine Kd.R_lit_step (Kd.int .i64) _ 3 ?hg (N := 15) ?hd (xs := ([4, 14, 30] : List Int)) (inner := [.int .i64 4, .int .i64 14, .int .i64 30]) (ok := fun _ => True) (okp := fun _ => True) ?hr ?hp (fun _ hk => hk) trivial (Below.refl _ _) (Nat.le_refl _) (by simp) ?_; (case hd => rfl); (case hg => rfl); (case hr => (go_simp; done)); (case hp => exact (Reps.one (show Kd.M (Kd.int .i64) _ _ _ 4 [.int .i64 4] from rfl) (Reps.one (show Kd.M (Kd.int .i64) _ _ _ 14 [.int .i64 14] from rfl) (Reps.one (show Kd.M (Kd.int .i64) _ _ _ 30 [.int .i64 30] from rfl) (Reps.none _ _)))))
    intro v234 w17 ho18 hb hg_ hnew_
    clear hg_ hnew_
    (rw [← Ny233.out] at ho18)
    have n0_ := Aside0.mk (Kd.R_lower ho18 (keep_size (w := w) (g := g) (row := none) (by repeat ((with_reducible exact HK.out)))))
    have n2_ := Aside0.mk (KeepBut.trans (by repeat ((with_reducible exact HK.out))) (KeepBut.of_below hb g none) (.inl rfl))
    have n3_ := Aside0.mk (below_step (by repeat ((with_reducible exact HB.out))) hb)
    have z_HI0 := fun (h0_ : b 3 = false) => (show IsS92 w0 w17 g s0_0 t231 t232 from by exact (IsS92.below (by repeat ((with_reducible exact (Q_HI0 h0_)))) hb))
    have z_HI0_e3 := fun (h0_ : b 3 = true) (h1_ : b 11 = false) => (show IsS92 w0 w17 g s0_0 t237 t238 from by exact (IsS92.below (by repeat ((with_reducible exact (Q_HI0_e3 h0_ h1_)))) hb))
    clear HK
    clear HB
    have HO235 := n0_
    have HK := n2_
    have HB := n3_
    clear n0_ n2_ n3_
    clear hb ho18
    obtain ⟨Ao19, co19, eo19⟩ := Kd.R_slice HO235.out
    subst eo19
    obtain ⟨ado19, fo19, _⟩ := Kd.at_int (Kd.R_reads' HO235.out).2.2 0 (by decide) (by rw [Ny233.out]; simp)
    cases fo19
    refine hK.out _ _ ⟨.slice (some ado19) y233.length co19, ado19, v242, m4_, m12_, (by rw [ha.out]; exact putSel_upk 0 hb_ rfl rfl rfl), z_HI0, (by repeat ((with_reducible exact HK.out))), (by repeat ((with_reducible exact HB.out))), fun _ => (by (with_reducible repeat (first | apply Kd.R_alloc | apply Kd.R_drewN | apply Kd.R_drew)); exact HO235.out), fun _ => ⟨_, rfl⟩, z_HI0_e3, fun h0_ => absurd ((hoff 11 (by kernel_rfl)).symm.trans h0_) (by decide), fun h0_ => absurd ((hoff 11 (by kernel_rfl)).symm.trans h0_) (by decide), fun h0_ => absurd ((hoff 4 (by kernel_rfl)).symm.trans h0_) (by decide), fun h0_ => absurd ((hoff 12 (by kernel_rfl)).symm.trans h0_) (by decide)⟩
   refine steps_cons ?_ ?_
   ·
    rintro b a w' ⟨v234, adz_v234, v242, m4_, m12_, ha, Q_HI0, Q_HK, Q_HB, Q_HO235, Q_HA_HO235, Q_HI0_e3, Q_HO243, Q_HI0_e11, Q_X4_, Q_X12_⟩ hb_ hon hoff
    refine ⟨_, rfl, fun K hK => ?_⟩
    have e16 : a.tmps[16]? = some (.pointer (some ⟨g, 0, none⟩)) := by rw [ha]; exact (putSel_off rfl).trans rfl
    replace ha := Aside0.mk ha
    have HI0 := Aside0.mk (Q_HI0 hb_)
    have HK := Aside0.mk Q_HK
    have HB := Aside0.mk Q_HB
    refine goes_ Try.func82 (by kernel_rfl) rfl #[.pointer (some ⟨g, 0, none⟩), .int .i64 3] (by rfl) rfl rfl (by (simp only [List.map_toArray, List.map_cons, List.map_nil, Act.eval, Array.getD_eq_getD_getElem?, Option.getD_some, e16]; done)) ?_
    with_reducible refine (spec_l01Cur_pick.calls g s0_0 t231 t232 3 t236 t237 t238 w0 _ ?side1 ?side2 A3.out).mono ?_
    (case side1 => repeat ((with_reducible exact HI0.out)))
    (case side2 => repeat ((with_reducible exact HB.out)))
    rintro e w17 ⟨rfl, hi, hb, hk⟩
    refine ⟨_, rfl, ?_⟩
    have n0_ := Aside0.mk (KeepBut.trans (by repeat ((with_reducible exact HK.out))) hk (.inl rfl))
    have n1_ := Aside0.mk (hb)
    have n2_ := Aside0.mk (hi)
    have z_HO235 := fun (h0_ : b 1 = true) => (show Kd.R (Kd.int .i64) 3 w17 w.heap.size (fun _ => True) v234 y233 from by exact (Kd.R_mono (Kd.R_keep (IsS92.apart (show IsS92 w0 _ g s0_0 t231 t232 from by repeat ((with_reducible exact HI0.out))) (by (with_reducible repeat (first | apply Kd.R_alloc | apply Kd.R_drewN | apply Kd.R_drew)); exact (Q_HO235 h0_)) (by decide)) hk (fun _ h => h.2)) (fun _ h => h.1)))
    clear HK
    clear HB
    clear HI0
    have HK := n0_
    have HB := n1_
    have HI0 := n2_
    clear n0_ n1_ n2_
    (try clear hb)
    (try clear hb2)
    (try clear hk)
    (try clear hi)
    refine hK.out _ _ ⟨v234, adz_v234, v242, m4_, m12_, (by rw [ha.out]; exact putSel_upk 1 hb_ rfl rfl rfl), fun h0_ => absurd ((up_self b 3).symm.trans h0_) (by decide), (by repeat ((with_reducible exact HK.out))), (by repeat ((with_reducible exact HB.out))), z_HO235, Q_HA_HO235, fun _ _ => (by repeat ((with_reducible exact HI0.out))), fun h0_ => absurd ((hoff 11 (by kernel_rfl)).symm.trans h0_) (by decide), fun h0_ => absurd ((hoff 11 (by kernel_rfl)).symm.trans h0_) (by decide), fun h0_ => absurd ((hoff 4 (by kernel_rfl)).symm.trans h0_) (by decide), fun h0_ => absurd ((hoff 12 (by kernel_rfl)).symm.trans h0_) (by decide)⟩
   refine steps_cons ?_ ?_
   ·
    rintro b a w' ⟨v234, adz_v234, v242, m4_, m12_, ha, Q_HI0, Q_HK, Q_HB, Q_HO235, Q_HA_HO235, Q_HI0_e3, Q_HO243, Q_HI0_e11, Q_X4_, Q_X12_⟩ hb_ hon hoff
    refine ⟨_, rfl, fun K hK => ?_⟩
    have e15 : a.tmps[15]? = some (v234) := by rw [ha]; exact putSel_on (e := (1, 15, v234)) 0 rfl rfl (hon 1 (by kernel_rfl)) rfl
    have e17 : a.tmps[17]? = some (.int .i64 t236) := by rw [ha]; exact putSel_on (e := (3, 17, .int .i64 t236)) 1 rfl rfl (hon 3 (by kernel_rfl)) rfl
    replace ha := Aside0.mk ha
    have HK := Aside0.mk Q_HK
    have HB := Aside0.mk Q_HB
    have HO235 := Aside0.mk (Q_HO235 (hon 1 (by kernel_rfl)))
    have HA_HO235 := Aside0.mk (Q_HA_HO235 (hon 1 (by kernel_rfl)))
    have HI0 := Aside0.mk (Q_HI0_e3 (hon 3 (by kernel_rfl)) (hoff 11 (by kernel_rfl)))
    obtain ⟨c_, hv_⟩ := HA_HO235.out
    rw [hv_] at e15
    refine value_ (w1 := w') (v := .pointer (some (adz_v234.add (t236).toNat))) (by rfl) rfl ?_ ?_
    ·
     go_simp
     (try simp only [i64_w])
     try rfl
    refine hK.out _ _ ⟨v234, adz_v234, v242, (.pointer (some (adz_v234.add (t236).toNat))), m12_, (by rw [ha.out]; exact putSel_upk 2 hb_ rfl rfl rfl), fun h0_ => absurd ((hon 3 (by kernel_rfl)).symm.trans h0_) (by decide), Q_HK, Q_HB, Q_HO235, Q_HA_HO235, Q_HI0_e3, fun h0_ => absurd ((hoff 11 (by kernel_rfl)).symm.trans h0_) (by decide), fun h0_ => absurd ((hoff 11 (by kernel_rfl)).symm.trans h0_) (by decide), fun _ => rfl, fun h0_ => absurd ((hoff 12 (by kernel_rfl)).symm.trans h0_) (by decide)⟩
   refine steps_cons ?_ ?_
   ·
    rintro b a w' ⟨v234, adz_v234, v242, m4_, m12_, ha, Q_HI0, Q_HK, Q_HB, Q_HO235, Q_HA_HO235, Q_HI0_e3, Q_HO243, Q_HI0_e11, Q_X4_, Q_X12_⟩ hb_ hon hoff
    refine ⟨_, rfl, fun K hK => ?_⟩
    have e18 : a.tmps[18]? = some (m4_) := by rw [ha]; exact putSel_on (e := (4, 18, m4_)) 2 rfl rfl (hon 4 (by kernel_rfl)) rfl
    rw [Q_X4_ (hon 4 (by kernel_rfl))] at e18
    replace ha := Aside0.mk ha
    have HK := Aside0.mk Q_HK
    have HB := Aside0.mk Q_HB
    have HO235 := Aside0.mk (Q_HO235 (hon 1 (by kernel_rfl)))
    have HA_HO235 := Aside0.mk (Q_HA_HO235 (hon 1 (by kernel_rfl)))
    have HI0 := Aside0.mk (Q_HI0_e3 (hon 3 (by kernel_rfl)) (hoff 11 (by kernel_rfl)))
    obtain ⟨c_, hv_⟩ := HA_HO235.out
    have hF_ := HO235.out
    rw [hv_] at hF_
    obtain ⟨ad_, ea_, hx_⟩ := Kd.at_int (Kd.R_reads' hF_).2.2 t236 (of_eq_true pi239) (of_eq_true qi239)
    cases ea_
    refine value_ (w1 := w') (v := .int .i64 (rd y233 t236)) (by rfl) rfl ?_ ?_
    ·
     go_simp
     (try simp only [i64_w])
     try rfl
    refine hK.out _ _ ⟨v234, adz_v234, v242, m4_, m12_, (by rw [ha.out]; exact putSel_upk 3 hb_ rfl rfl rfl), fun h0_ => absurd ((hon 3 (by kernel_rfl)).symm.trans h0_) (by decide), Q_HK, Q_HB, Q_HO235, Q_HA_HO235, Q_HI0_e3, fun h0_ => absurd ((hoff 11 (by kernel_rfl)).symm.trans h0_) (by decide), fun h0_ => absurd ((hoff 11 (by kernel_rfl)).symm.trans h0_) (by decide), Q_X4_, fun h0_ => absurd ((hoff 12 (by kernel_rfl)).symm.trans h0_) (by decide)⟩
   refine steps_cons ?_ ?_
   ·
    rintro b a w' ⟨v234, adz_v234, v242, m4_, m12_, ha, Q_HI0, Q_HK, Q_HB, Q_HO235, Q_HA_HO235, Q_HI0_e3, Q_HO243, Q_HI0_e11, Q_X4_, Q_X12_⟩ hb_ hon hoff
    refine ⟨_, rfl, fun K hK => ?_⟩
    have e20 : a.tmps[20]? = some (.int .i64 t229) := by rw [ha]; exact (putSel_off rfl).trans rfl
    replace ha := Aside0.mk ha
    have HK := Aside0.mk Q_HK
    have HB := Aside0.mk Q_HB
    have HI0 := Aside0.mk (Q_HI0_e3 (hon 3 (by kernel_rfl)) (hoff 11 (by kernel_rfl)))
    refine goes_ Try.func57 (by kernel_rfl) rfl #[.int .i64 t229] (by rfl) rfl rfl (by (simp only [List.map_toArray, List.map_cons, List.map_nil, Act.eval, Array.getD_eq_getD_getElem?, Option.getD_some, e20]; done)) ?_
    with_reducible refine (spec_l12Clip.calls t229 t240 _ A6.out).mono ?_
    rintro e w19 ⟨rfl, hb⟩
    refine ⟨_, rfl, ?_⟩
    have n0_ := Aside0.mk (IsS92.below (by repeat ((with_reducible exact HI0.out))) hb)
    have n1_ := Aside0.mk (KeepBut.trans (by repeat ((with_reducible exact HK.out))) (KeepBut.of_below hb g none) (.inl rfl))
    have n2_ := Aside0.mk (below_step (by repeat ((with_reducible exact HB.out))) hb)
    have z_HO235 := fun (h0_ : b 1 = true) => (show Kd.R (Kd.int .i64) 3 w19 w.heap.size (fun _ => True) v234 y233 from by exact (Kd.R_below (by (with_reducible repeat (first | apply Kd.R_alloc | apply Kd.R_drewN | apply Kd.R_drew)); exact (Q_HO235 h0_)) hb))
    clear HI0
    clear HK
    clear HB
    have HI0 := n0_
    have HK := n1_
    have HB := n2_
    clear n0_ n1_ n2_
    (try clear hb)
    (try clear hb2)
    (try clear hk)
    (try clear hi)
    refine hK.out _ _ ⟨v234, adz_v234, v242, m4_, m12_, (by rw [ha.out]; exact putSel_upk 4 hb_ rfl rfl rfl), fun h0_ => absurd ((hon 3 (by kernel_rfl)).symm.trans h0_) (by decide), (by repeat ((with_reducible exact HK.out))), (by repeat ((with_reducible exact HB.out))), z_HO235, Q_HA_HO235, fun _ _ => (by repeat ((with_reducible exact HI0.out))), fun h0_ => absurd ((hoff 11 (by kernel_rfl)).symm.trans h0_) (by decide), fun h0_ => absurd ((hoff 11 (by kernel_rfl)).symm.trans h0_) (by decide), Q_X4_, fun h0_ => absurd ((hoff 12 (by kernel_rfl)).symm.trans h0_) (by decide)⟩
   refine steps_cons ?_ ?_
   ·
    rintro b a w' ⟨v234, adz_v234, v242, m4_, m12_, ha, Q_HI0, Q_HK, Q_HB, Q_HO235, Q_HA_HO235, Q_HI0_e3, Q_HO243, Q_HI0_e11, Q_X4_, Q_X12_⟩ hb_ hon hoff
    refine ⟨_, rfl, fun K hK => ?_⟩
    have e22 : a.tmps[22]? = some (.int .i64 t230) := by rw [ha]; exact (putSel_off rfl).trans rfl
    replace ha := Aside0.mk ha
    have HK := Aside0.mk Q_HK
    have HB := Aside0.mk Q_HB
    refine value_ (w1 := w') (v := .int .i64 ji7) (by rfl) rfl ?_ ?_
    ·
     go_simp
     (try simp only [i64_w])
     try rfl
    refine hK.out _ _ ⟨v234, adz_v234, v242, m4_, m12_, (by rw [ha.out]; exact putSel_upk 5 hb_ rfl rfl rfl), Q_HI0, Q_HK, Q_HB, Q_HO235, Q_HA_HO235, Q_HI0_e3, fun h0_ => absurd ((hoff 11 (by kernel_rfl)).symm.trans h0_) (by decide), fun h0_ => absurd ((hoff 11 (by kernel_rfl)).symm.trans h0_) (by decide), Q_X4_, fun h0_ => absurd ((hoff 12 (by kernel_rfl)).symm.trans h0_) (by decide)⟩
   refine steps_cons ?_ ?_
   ·
    rintro b a w' ⟨v234, adz_v234, v242, m4_, m12_, ha, Q_HI0, Q_HK, Q_HB, Q_HO235, Q_HA_HO235, Q_HI0_e3, Q_HO243, Q_HI0_e11, Q_X4_, Q_X12_⟩ hb_ hon hoff
    refine ⟨_, rfl, fun K hK => ?_⟩
    have e23 : a.tmps[23]? = some (.int .i64 ji7) := by rw [ha]; exact putSel_on (e := (9, 23, .int .i64 ji7)) 5 rfl rfl (hon 9 (by kernel_rfl)) rfl
    replace ha := Aside0.mk ha
    have HK := Aside0.mk Q_HK
    have HB := Aside0.mk Q_HB
    refine value_ (w1 := w') (v := .int .i64 ji8) (by rfl) rfl ?_ ?_
    ·
     go_simp
     (try simp only [i64_w])
     try rfl
    refine hK.out _ _ ⟨v234, adz_v234, v242, m4_, m12_, (by rw [ha.out]; exact putSel_upk 6 hb_ rfl rfl rfl), Q_HI0, Q_HK, Q_HB, Q_HO235, Q_HA_HO235, Q_HI0_e3, fun h0_ => absurd ((hoff 11 (by kernel_rfl)).symm.trans h0_) (by decide), fun h0_ => absurd ((hoff 11 (by kernel_rfl)).symm.trans h0_) (by decide), Q_X4_, fun h0_ => absurd ((hoff 12 (by kernel_rfl)).symm.trans h0_) (by decide)⟩
   refine steps_cons ?_ ?_
   ·
    rintro b a w' ⟨v234, adz_v234, v242, m4_, m12_, ha, Q_HI0, Q_HK, Q_HB, Q_HO235, Q_HA_HO235, Q_HI0_e3, Q_HO243, Q_HI0_e11, Q_X4_, Q_X12_⟩ hb_ hon hoff
    refine ⟨_, rfl, fun K hK => ?_⟩
    have e14 : a.tmps[14]? = some (.pointer (some ⟨g, 0, none⟩)) := by rw [ha]; exact (putSel_off rfl).trans rfl
    have e19 : a.tmps[19]? = some (.int .i64 (rd y233 t236)) := by rw [ha]; exact putSel_on (e := (5, 19, .int .i64 (rd y233 t236))) 3 rfl rfl (hon 5 (by kernel_rfl)) rfl
    have e21 : a.tmps[21]? = some (.int .i64 t240) := by rw [ha]; exact putSel_on (e := (7, 21, .int .i64 t240)) 4 rfl rfl (hon 7 (by kernel_rfl)) rfl
    have e24 : a.tmps[24]? = some (.int .i64 ji8) := by rw [ha]; exact putSel_on (e := (10, 24, .int .i64 ji8)) 6 rfl rfl (hon 10 (by kernel_rfl)) rfl
    replace ha := Aside0.mk ha
    have HK := Aside0.mk Q_HK
    have HB := Aside0.mk Q_HB
    have HO235 := Aside0.mk (Q_HO235 (hon 1 (by kernel_rfl)))
    have HA_HO235 := Aside0.mk (Q_HA_HO235 (hon 1 (by kernel_rfl)))
    have HI0 := Aside0.mk (Q_HI0_e3 (hon 3 (by kernel_rfl)) hb_)
    obtain ⟨co23, eo23⟩ := HA_HO235.out
    clear HA_HO235
    subst eo23
    refine goes_ Try.func56 (by kernel_rfl) rfl #[.pointer (some ⟨g, 0, none⟩), .int .i64 (rd y233 t236), .int .i64 t240, .int .i64 ji8] (by rfl) rfl rfl (by (simp only [List.map_toArray, List.map_cons, List.map_nil, Act.eval, Array.getD_eq_getD_getElem?, Option.getD_some, e14, e19, e21, e24]; done)) ?_
    with_reducible refine (spec_l01Cur_blocks.calls k g s0_0 t237 t238 (rd y233 t236) t240 ji8 t241 t244 t245 w0 _ ?side1 ?side2 A9.out).mono ?_
    (case side1 => repeat ((with_reducible exact HI0.out)))
    (case side2 => repeat ((with_reducible exact HB.out)))
    rintro e w24 ⟨v242, rfl, ho0, hi, hb, hk⟩
    refine ⟨_, rfl, ?_⟩
    have HO243 := Aside0.mk (Kd.S_lower ho0 (keep_size (w := w) (g := g) (row := none) (by repeat ((with_reducible exact HK.out)))))
    replace HO235 := Aside0.mk (Kd.R_mono (Kd.R_keep (IsS92.apart (show IsS92 w0 _ g s0_0 t237 t238 from by repeat ((with_reducible exact HI0.out))) (by (with_reducible repeat (first | apply Kd.R_alloc | apply Kd.R_drewN | apply Kd.R_drew)); exact HO235.out) (by decide)) hk (fun _ h => h.2)) (fun _ h => h.1))
    replace HK := Aside0.mk (KeepBut.trans (by repeat ((with_reducible exact HK.out))) hk (.inl rfl))
    replace HB := Aside0.mk (hb)
    replace HI0 := Aside0.mk (hi)
    (try clear hb)
    (try clear hb2)
    (try clear hk)
    (try clear hi)
    (try clear ho0)
    refine hK.out _ _ ⟨.slice (some adz_v234) y233.length co23, adz_v234, v242, m4_, m12_, (by rw [ha.out]; exact putSel_upk 7 hb_ rfl rfl rfl), fun h0_ => absurd ((hon 3 (by kernel_rfl)).symm.trans h0_) (by decide), (by repeat ((with_reducible exact HK.out))), (by repeat ((with_reducible exact HB.out))), fun _ => (by (with_reducible repeat (first | apply Kd.R_alloc | apply Kd.R_drewN | apply Kd.R_drew)); exact HO235.out), fun _ => ⟨_, rfl⟩, fun _ h1_ => absurd ((up_self b 11).symm.trans h1_) (by decide), fun _ => (by (with_reducible repeat (first | apply Kd.S_alloc | apply Kd.S_drewN | apply Kd.S_drew)); exact HO243.out), fun _ => (by repeat ((with_reducible exact HI0.out))), Q_X4_, fun h0_ => absurd ((hoff 12 (by kernel_rfl)).symm.trans h0_) (by decide)⟩
   refine steps_cons ?_ ?_
   ·
    rintro b a w' ⟨v234, adz_v234, v242, m4_, m12_, ha, Q_HI0, Q_HK, Q_HB, Q_HO235, Q_HA_HO235, Q_HI0_e3, Q_HO243, Q_HI0_e11, Q_X4_, Q_X12_⟩ hb_ hon hoff
    refine ⟨_, rfl, fun K hK => ?_⟩
    have e25 : a.tmps[25]? = some (v242) := by rw [ha]; exact putSel_on (e := (11, 25, v242)) 7 rfl rfl (hon 11 (by kernel_rfl)) rfl
    replace ha := Aside0.mk ha
    have HK := Aside0.mk Q_HK
    have HB := Aside0.mk Q_HB
    have HO235 := Aside0.mk (Q_HO235 (hon 1 (by kernel_rfl)))
    have HA_HO235 := Aside0.mk (Q_HA_HO235 (hon 1 (by kernel_rfl)))
    have HO243 := Aside0.mk (Q_HO243 (hon 11 (by kernel_rfl)))
    have HI0 := Aside0.mk (Q_HI0_e11 (hon 11 (by kernel_rfl)))
    refine value_ (w1 := w') (v := v242) (by rfl) rfl ?_ ?_
    ·
     go_simp
     (try simp only [i64_w])
     try rfl
    refine hK.out _ _ ⟨v234, adz_v234, v242, m4_, (v242), (by rw [ha.out]; exact putSel_upk 8 hb_ rfl rfl rfl), fun h0_ => absurd ((hon 3 (by kernel_rfl)).symm.trans h0_) (by decide), Q_HK, Q_HB, Q_HO235, Q_HA_HO235, fun _ h1_ => absurd ((hon 11 (by kernel_rfl)).symm.trans h1_) (by decide), Q_HO243, Q_HI0_e11, Q_X4_, fun _ => rfl⟩
   exact steps_nil
  rintro b a w23 hall ⟨v234, adz_v234, v242, m4_, m12_, ha, Q_HI0, Q_HK, Q_HB, Q_HO235, Q_HA_HO235, Q_HI0_e3, Q_HO243, Q_HI0_e11, Q_X4_, Q_X12_⟩
  clear HB HI0 HK
  have hb1_ := hall 1 (by kernel_rfl)
  have hb3_ := hall 3 (by kernel_rfl)
  have hb4_ := hall 4 (by kernel_rfl)
  have hb5_ := hall 5 (by kernel_rfl)
  have hb7_ := hall 7 (by kernel_rfl)
  have hb9_ := hall 9 (by kernel_rfl)
  have hb10_ := hall 10 (by kernel_rfl)
  have hb11_ := hall 11 (by kernel_rfl)
  have hb12_ := hall 12 (by kernel_rfl)
  subst ha
  obtain rfl := Q_X4_ hb4_
  obtain rfl := Q_X12_ hb12_
  simp only [putSel, hb1_, hb3_, hb4_, hb5_, hb7_, hb9_, hb10_, hb11_, hb12_, if_true, Act.put, List.setIfInBounds_toArray, List.set_cons_zero, List.set_cons_succ]
  clear Q_HI0
  have HK := Aside0.mk Q_HK
  clear Q_HK
  have HB := Aside0.mk Q_HB
  clear Q_HB
  have HO235 := Aside0.mk (Q_HO235 hb1_)
  clear Q_HO235
  have HA_HO235 := Aside0.mk (Q_HA_HO235 hb1_)
  clear Q_HA_HO235
  clear Q_HI0_e3
  have HO243 := Aside0.mk (Q_HO243 hb11_)
  clear Q_HO243
  have HI0 := Aside0.mk (Q_HI0_e11 hb11_)
  clear Q_HI0_e11
  clear hall hb1_ hb3_ hb4_ hb5_ hb7_ hb9_ hb10_ hb11_ hb12_
  obtain ⟨co24, eo24⟩ := HA_HO235.out
  clear HA_HO235
  subst eo24
  try go_wp2_with (first | ((with_reducible refine gate_callee (f := 80) rfl ?_); refine goesL_ (some 27) rfl rfl Try.func80 (by kernel_rfl) rfl #[.pointer (some ⟨g, 0, none⟩), .int .i64 5] rfl (by (try simp only [List.map_toArray, List.map_cons, List.map_nil]); rfl) ?_; (with_reducible refine (spec_l01Cur_once.calls g s0_0 t244 t245 5 true t247 t248 w0 _ ?side1 ?side2 A10.out).mono ?_); (case side1 => repeat ((with_reducible exact HI0.out))); (case side2 => repeat ((with_reducible exact HB.out))); rintro e w25 ⟨rfl, hi, hb, hk⟩; refine ⟨_, rfl, ?_⟩; have n0_ := Aside0.mk (Kd.R_mono (Kd.R_keep (IsS92.apart (show IsS92 w0 _ g s0_0 t244 t245 from by repeat ((with_reducible exact HI0.out))) (by (with_reducible repeat (first | apply Kd.R_alloc | apply Kd.R_drewN | apply Kd.R_drew)); exact HO235.out) (by decide)) hk (fun _ h => h.2)) (fun _ h => h.1)); have n1_ := Aside0.mk (Kd.S_mono (Kd.S_keep (IsS92.apartS (show IsS92 w0 _ g s0_0 t244 t245 from by repeat ((with_reducible exact HI0.out))) (by (with_reducible repeat (first | apply Kd.S_alloc | apply Kd.S_drewN | apply Kd.S_drew)); exact HO243.out) (by decide)) hk (fun _ h => h.2)) (fun _ h => h.1)); have n2_ := Aside0.mk (KeepBut.trans (by repeat ((with_reducible exact HK.out))) hk (.inl rfl)); have n3_ := Aside0.mk (hb); have n4_ := Aside0.mk (hi); clear HO235; clear HO243; clear HK; clear HB; clear HI0; have HO235 := n0_; have HO243 := n1_; have HK := n2_; have HB := n3_; have HI0 := n4_; clear n0_ n1_ n2_ n3_ n4_; (try clear hb); (try clear hb2); (try clear hk); (try clear hi); obtain ⟨Ao26, co26, eo26⟩ := Kd.S_slice HO243.out; subst eo26) | ((with_reducible refine gate_callee (f := 55) rfl ?_); refine goesL_ (some 30) rfl rfl Try.func55 (by kernel_rfl) rfl #[.pointer (some ⟨g, 0, none⟩), .slice Ao26 t241.length co26] rfl (by (try simp only [List.map_toArray, List.map_cons, List.map_nil]); rfl) ?_; (with_reducible refine (spec_l01Cur_badBlocks.calls k g s0_0 t247 t248 (fun k_ => w.heap.size ≤ k_) (.slice Ao26 t241.length co26) t241 t249 t252 t253 w0 _ ?side1 ?side2 ?side3 A12.out).mono ?_); (case side1 => repeat ((with_reducible exact HI0.out))); (case side2 => repeat ((with_reducible exact HB.out))); (case side3 => exact Kd.S_lower (Kd.S_mono (Kd.S_bound HO243.out) (fun _ h_ => h_.2.1)) HL.out); rintro e w27 ⟨v250, rfl, ho0, hi, hb, hkp⟩; refine ⟨_, rfl, ?_⟩; have n0_ := Aside0.mk (hi); have n1_ := Aside0.mk (Kd.S_mono (ok' := fun k_ => True) (blocks_raise (b' := w.heap.size) ho0 (fun k_ e_ => Or.elim e_ (fun hs_ => hs_) (fun hn_ => Nat.le_trans (keep_size (w := w) (g := g) (row := none) (by repeat ((with_reducible exact HK.out)))) hn_))) (fun k_ hk_ => trivial)); have n2_ := Aside0.mk (Kept.keepG (by repeat ((with_reducible exact HK.out))) hkp (fun k_ hs_ => Or.elim hs_ (fun hs_ => .inr hs_) (fun e_ => .inl e_))); have n3_ := Aside0.mk (hb); clear HI0; clear HK; clear HB; clear HO235; clear HO243; have HI0 := n0_; have HO251 := n1_; have HK := n2_; have HB := n3_; clear n0_ n1_ n2_ n3_; (try clear hb); (try clear hkp); (try clear ho0)) | ((with_reducible refine gate_callee (f := 80) rfl ?_); refine goesL_ (some 32) rfl rfl Try.func80 (by kernel_rfl) rfl #[.pointer (some ⟨g, 0, none⟩), .int .i64 20] rfl (by (try simp only [List.map_toArray, List.map_cons, List.map_nil]); rfl) ?_; (with_reducible refine (spec_l01Cur_once.calls g s0_0 t252 t253 20 true t255 t256 w0 _ ?side1 ?side2 A13.out).mono ?_); (case side1 => repeat ((with_reducible exact HI0.out))); (case side2 => repeat ((with_reducible exact HB.out))); rintro e w28 ⟨rfl, hi, hb, hk⟩; refine ⟨_, rfl, ?_⟩; have n0_ := Aside0.mk (Kd.S_mono (Kd.S_keep (IsS92.apartS (show IsS92 w0 _ g s0_0 t252 t253 from by repeat ((with_reducible exact HI0.out))) (by (with_reducible repeat (first | apply Kd.S_alloc | apply Kd.S_drewN | apply Kd.S_drew)); exact HO251.out) (by decide)) hk (fun _ h => h.2)) (fun _ h => h.1)); have n1_ := Aside0.mk (KeepBut.trans (by repeat ((with_reducible exact HK.out))) hk (.inl rfl)); have n2_ := Aside0.mk (hb); have n3_ := Aside0.mk (hi); clear HO251; clear HK; clear HB; clear HI0; have HO251 := n0_; have HK := n1_; have HB := n2_; have HI0 := n3_; clear n0_ n1_ n2_ n3_; (try clear hb); (try clear hb2); (try clear hk); (try clear hi)) | ((with_reducible refine gate_dst (N := 33) rfl ?_); refine Kd.S_lit k26 _ 26 ?hg (N := 33) ?hd (xs := ([] : List (S26))) (inner := []) (ok := fun _ => True) (okp := fun _ => True) ?hr ?hp (fun _ hk => hk) trivial (Below.refl _ _) (Nat.le_refl _) (by simp) ?_; (case hd => rfl); (case hg => rfl); (case hr => (go_simp; done)); (case hp => exact (Reps.none _ _)); intro v258 w29 ho30 hb hg_ hnew_; clear hg_ hnew_; (rw [← Ny257.out] at ho30); have n0_ := Aside0.mk (Kd.S_elder' (by (with_reducible repeat (first | apply Kd.S_alloc | apply Kd.S_drewN | apply Kd.S_drew)); exact HO251.out) (Kd.S_base ho30) hb); have n1_ := Aside0.mk (Kd.S_lower (Kd.S_new' ho30 (Kd.S_lt (by (with_reducible repeat (first | apply Kd.S_alloc | apply Kd.S_drewN | apply Kd.S_drew)); exact HO251.out))) (keep_size (w := w) (g := g) (row := none) (by repeat ((with_reducible exact HK.out))))); have n2_ := Aside0.mk (IsS92.below (by repeat ((with_reducible exact HI0.out))) hb); have n3_ := Aside0.mk (KeepBut.trans (by repeat ((with_reducible exact HK.out))) (KeepBut.of_below hb g none) (.inl rfl)); have n4_ := Aside0.mk (below_step (by repeat ((with_reducible exact HB.out))) hb); clear HO251; clear HI0; clear HK; clear HB; have HO251 := n0_; have HO259 := n1_; have HI0 := n2_; have HK := n3_; have HB := n4_; clear n0_ n1_ n2_ n3_ n4_; clear hb ho30))
  go_loopg [7, 8] k (fun kq v7 v8 w' => ∃ (x7_1 : List (S26)) (x8_1 : Int) (x1001_1 : Int) (x1002_1 : Int), v8 = .int .i64 x8_1 ∧ Aside0 (spec_l01Cur_stash.l0 kq t229 t230 x7_1 x8_1 s0_0 x1001_1 x1002_1 = some (r1, r2, r3, r4, r5)) ∧ Aside0 (kq ≤ k) ∧ Aside0 (Kd.S k26 26 w' w.heap.size (fun _ => True) v7 x7_1) ∧ Aside0 (IsS92 w0 w' g s0_0 x1001_1 x1002_1) ∧ Aside0 (KeepBut w w' g none) ∧ Aside0 (Below w0.heap.size w0 w'))
  case atStart => exact ⟨(y257), (0), (t255), (t256), (by rfl), H', ⟨Nat.le_refl _⟩, ⟨by (with_reducible repeat (first | apply Kd.S_alloc | apply Kd.S_drewN | apply Kd.S_drew)); exact Kd.S_mono HO259.out (fun _ hk => trivial)⟩, ⟨by repeat ((with_reducible exact HI0.out))⟩, ⟨by repeat ((with_reducible exact HK.out))⟩, ⟨by repeat ((with_reducible exact HB.out))⟩⟩
  case round =>
   clear H'
   try clear c1
   try clear p1
   try clear p2
   try clear qi2
   try clear c4
   try clear c4b0
   try clear c5
   try clear c5b0
   try clear c6
   try clear c8
   try clear p10
   try clear c11
   try clear c14
   try clear qi23
   obtain ⟨x7_1, x8_1, x1001_1, x1002_1, rfl, HA, HK1, HO_7, HI0, HK, HB⟩ := hrel
   cases gk with
   | zero => exact absurd HA.out (by simp [spec_l01Cur_stash.l0])
   | succ k1 =>
    have H := HA.out
    clear HA
    simp only [spec_l01Cur_stash.l0] at H
    replace H := Option.bind_eq_some_iff.mp H
    obtain ⟨⟨t260, t261, t262⟩, A310, H⟩ := H
    replace H : (if x8_1 < (wrap64 (128 + t260)) then (if 0 ≤ (mn 5 (mx 1 t230)) then (if (mn 5 (mx 1 t230) : Int).toNat ≤ 281474976710656 then (if x7_1.length < 3518437208883 then (spec_l01Cur_stash.l0 k1 t229 t230 (x7_1 ++ [(⟨x8_1, 0, (List.replicate (mn 5 (mx 1 t230) : Int).toNat 0)⟩ : S26)]) (wrap64 (x8_1 + 1)) s0_0 t261 t262) else (none)) else (none)) else (none)) else (some (x7_1, t229, t230, t261, t262))) = some (r1, r2, r3, r4, r5) := H
    have A31 := Aside0.mk A310
    clear A310
    by_cases c32 : x8_1 < (wrap64 (128 + t260))
    rotate_left
    ·
     rw [if_neg c32] at H
     have c32b0 : decide (x8_1 < (wrap64 (128 + t260))) = false := decide_eq_false c32
     clear c32
     simp only [Option.some.injEq, Prod.mk.injEq] at H
     obtain ⟨rfl, rfl, rfl, rfl, rfl⟩ := H
     go_wp2_with (((with_reducible refine gate_callee (f := 82) rfl ?_); refine goesL_ (some 36) rfl rfl Try.func82 (by kernel_rfl) rfl #[.pointer (some ⟨g, 0, none⟩), .int .i64 2] rfl (by (try simp only [List.map_toArray, List.map_cons, List.map_nil]); rfl) ?_; (with_reducible refine (spec_l01Cur_pick.calls g s0_0 x1001_1 x1002_1 2 t260 t261 t262 w0 _ ?side1 ?side2 A31.out).mono ?_); (case side1 => repeat ((with_reducible exact HI0.out))); (case side2 => repeat ((with_reducible exact HB.out))); rintro e w43 ⟨rfl, hi, hb, hk⟩; refine ⟨_, rfl, ?_⟩; have n0_ := Aside0.mk (Kd.S_mono (Kd.S_keep (IsS92.apartS (show IsS92 w0 _ g s0_0 x1001_1 x1002_1 from by repeat ((with_reducible exact HI0.out))) (by (with_reducible repeat (first | apply Kd.S_alloc | apply Kd.S_drewN | apply Kd.S_drew)); exact HO_7.out) (by decide)) hk (fun _ h => h.2)) (fun _ h => h.1)); have n1_ := Aside0.mk (KeepBut.trans (by repeat ((with_reducible exact HK.out))) hk (.inl rfl)); have n2_ := Aside0.mk (hb); have n3_ := Aside0.mk (hi); clear HO_7; clear HK; clear HB; clear HI0; have HO_7 := n0_; have HK := n1_; have HB := n2_; have HI0 := n3_; clear n0_ n1_ n2_ n3_; (try clear hb); (try clear hb2); (try clear hk); (try clear hi)))
     go_ret3
     exact ⟨_, by rfl, by (with_reducible repeat (first | apply Kd.S_alloc | apply Kd.S_drewN | apply Kd.S_drew)); exact HO_7.out, by repeat ((with_reducible exact HI0.out)), by repeat ((with_reducible exact HB.out)), by repeat ((with_reducible exact HK.out))⟩
    rw [if_pos c32] at H
    have c32b0 : decide (x8_1 < (wrap64 (128 + t260))) = true := decide_eq_true c32
    clear c32
    obtain ⟨ji33, hji33⟩ : ∃ j_ : Int, (mx 1 t230) = j_ := ⟨_, rfl⟩
    obtain rfl : ji33 = ji7 := hji33.symm.trans hji7
    replace H : (if 0 ≤ (mn 5 (ji33)) then (if (mn 5 (ji33) : Int).toNat ≤ 281474976710656 then (if x7_1.length < 3518437208883 then (spec_l01Cur_stash.l0 k1 t229 t230 (x7_1 ++ [(⟨x8_1, 0, (List.replicate (mn 5 (ji33) : Int).toNat 0)⟩ : S26)]) (wrap64 (x8_1 + 1)) s0_0 t261 t262) else (none)) else (none)) else (none)) = some (r1, r2, r3, r4, r5) := by (rw [hji33] at H; exact H)
    (try rw [hji33] at A31)
    (try (have hji33l : 1 ≤ ji33 := by (rw [← hji33]; unfold mx; (repeat' split) <;> omega)))
    (try (have hji33m : 0 ≤ ji33 := by omega))
    have hji33_ : (if 1 < t230 then t230 else 1) = ji33 := hji33
    obtain ⟨ji34, hji34⟩ : ∃ j_ : Int, (mn 5 (ji33)) = j_ := ⟨_, rfl⟩
    obtain rfl : ji34 = ji8 := hji34.symm.trans hji8
    replace H : (if 0 ≤ (ji34) then (if (ji34 : Int).toNat ≤ 281474976710656 then (if x7_1.length < 3518437208883 then (spec_l01Cur_stash.l0 k1 t229 t230 (x7_1 ++ [(⟨x8_1, 0, (List.replicate (ji34 : Int).toNat 0)⟩ : S26)]) (wrap64 (x8_1 + 1)) s0_0 t261 t262) else (none)) else (none)) else (none)) = some (r1, r2, r3, r4, r5) := by (rw [hji34] at H; exact H)
    (try rw [hji34] at A31)
    have hji34_ : (if (ji33) < 5 then (ji33) else 5) = ji34 := hji34
    by_cases c35 : 0 ≤ (ji34)
    rotate_left
    ·
     rw [if_neg c35] at H
     exact absurd H (by simp)
    rw [if_pos c35] at H
    have c35b0 := eq_true c35
    have c35b1 : decide (0 ≤ (ji34)) = true := decide_eq_true c35
    clear c35
    by_cases c36 : (ji34 : Int).toNat ≤ 281474976710656
    rotate_left
    ·
     rw [if_neg c36] at H
     exact absurd H (by simp)
    rw [if_pos c36] at H
    have c36b0 := eq_true c36
    have c36b1 : decide ((ji34 : Int).toNat ≤ 281474976710656) = true := decide_eq_true c36
    clear c36
    obtain ⟨y263, hy263⟩ : ∃ y_ : List Int, y_ = (List.replicate (ji34 : Int).toNat 0) := ⟨_, rfl⟩
    replace H : (if x7_1.length < 3518437208883 then (spec_l01Cur_stash.l0 k1 t229 t230 (x7_1 ++ [(⟨x8_1, 0, y263⟩ : S26)]) (wrap64 (x8_1 + 1)) s0_0 t261 t262) else (none)) = some (r1, r2, r3, r4, r5) := by (rw [hy263]; with_reducible exact H)
    have Ny263 := Aside0.mk hy263
    clear hy263
    by_cases c37 : x7_1.length < 3518437208883
    rotate_left
    ·
     rw [if_neg c37] at H
     exact absurd H (by simp)
    rw [if_pos c37] at H
    have LMc37 := Aside0.mk c37
    clear c37
    obtain ⟨y266, hy266⟩ : ∃ y_ : List (S26), y_ = (x7_1 ++ [(⟨x8_1, 0, y263⟩ : S26)]) := ⟨_, rfl⟩
    replace H : (spec_l01Cur_stash.l0 k1 t229 t230 y266 (wrap64 (x8_1 + 1)) s0_0 t261 t262) = some (r1, r2, r3, r4, r5) := by (rw [hy266]; with_reducible exact H)
    have Ny266 := Aside0.mk hy266
    clear hy266
    have H' := Aside0.mk H
    clear H
    go_wp2_with (first | ((with_reducible refine gate_callee (f := 82) rfl ?_); refine goesL_ (some 36) rfl rfl Try.func82 (by kernel_rfl) rfl #[.pointer (some ⟨g, 0, none⟩), .int .i64 2] rfl (by (try simp only [List.map_toArray, List.map_cons, List.map_nil]); rfl) ?_; (with_reducible refine (spec_l01Cur_pick.calls g s0_0 x1001_1 x1002_1 2 t260 t261 t262 w0 _ ?side1 ?side2 A31.out).mono ?_); (case side1 => repeat ((with_reducible exact HI0.out))); (case side2 => repeat ((with_reducible exact HB.out))); rintro e w38 ⟨rfl, hi, hb, hk⟩; refine ⟨_, rfl, ?_⟩; have n0_ := Aside0.mk (Kd.S_mono (Kd.S_keep (IsS92.apartS (show IsS92 w0 _ g s0_0 x1001_1 x1002_1 from by repeat ((with_reducible exact HI0.out))) (by (with_reducible repeat (first | apply Kd.S_alloc | apply Kd.S_drewN | apply Kd.S_drew)); exact HO_7.out) (by decide)) hk (fun _ h => h.2)) (fun _ h => h.1)); have n1_ := Aside0.mk (KeepBut.trans (by repeat ((with_reducible exact HK.out))) hk (.inl rfl)); have n2_ := Aside0.mk (hb); have n3_ := Aside0.mk (hi); clear HO_7; clear HK; clear HB; clear HI0; have HO_7 := n0_; have HK := n1_; have HB := n2_; have HI0 := n3_; clear n0_ n1_ n2_ n3_; (try clear hb); (try clear hb2); (try clear hk); (try clear hi)) | ((with_reducible refine gate_dst (N := 46) rfl ?_); refine Kd.R_make (Kd.int .u8) _ 5 rfl (N := 46) rfl 24 _ _ rfl ji34 rfl rfl Try.underlying24 (.int .u8 0) 1 info5 rfl (by decide) (by omega) 0 (ok := fun _ => True) (okp := fun _ => True) rfl (fun _ hk => hk) trivial (of_decide_eq_true (by (with_reducible assumption))) (Nat.le_trans (Nat.mul_le_mul_right _ (of_decide_eq_true (by (with_reducible assumption)) : ji34.toNat ≤ 281474976710656)) (by omega)) (Below.refl _ _) (Nat.le_refl _) ?_; intro v264 w39 ho40 hb hg_ hnew_; clear hg_ hnew_; (rw [← Ny263.out] at ho40); have n0_ := Aside0.mk (Kd.S_elder' (by (with_reducible repeat (first | apply Kd.S_alloc | apply Kd.S_drewN | apply Kd.S_drew)); exact HO_7.out) (Kd.R_base ho40) hb); have n1_ := Aside0.mk (Kd.R_lower ho40 (keep_size (w := w) (g := g) (row := none) (by repeat ((with_reducible exact HK.out))))); have n2_ := Aside0.mk (IsS92.below (by repeat ((with_reducible exact HI0.out))) hb); have n3_ := Aside0.mk (KeepBut.trans (by repeat ((with_reducible exact HK.out))) (KeepBut.of_below hb g none) (.inl rfl)); have n4_ := Aside0.mk (below_step (by repeat ((with_reducible exact HB.out))) hb); clear HO_7; clear HI0; clear HK; clear HB; have HO_7 := n0_; have HO265 := n1_; have HI0 := n2_; have HK := n3_; have HB := n4_; clear n0_ n1_ n2_ n3_ n4_; clear hb ho40; obtain ⟨Ao41, co41, eo41⟩ := Kd.R_slice HO265.out; subst eo41) | ((with_reducible refine gate_builtin (b := .append) (xs := #[.tmp 41, .tmp 48]) rfl ?_); at_builtin; refine Kd.S_append k26 w.heap.size rfl (.tmp 41) (.tmp 48) 29 26 (.agg #[(.int .i64 0), (.int .i64 0), (.slice none 0 0)]) 40 rfl Try.underlying29 info26 rfl (by decide) (by omega) u7 x7_1 (⟨x8_1, 0, y263⟩ : S26) [.int .i64 x8_1, .int .i64 0, .slice Ao41 y263.length co41] (fun _ => True) (fun k_ => some k_ = (.slice Ao41 y263.length co41 : Value).ownBlock) rfl rfl ?aP (fun k_ hk_ => ((Kd.R_mono (ok' := fun k_ => ((fun _ => True)) k_ ∧ some k_ ≠ (u7 : Value).ownBlock) (Kd.R_apart' (HO265.out) (Kd.S_typed HO_7.out) (by decide)) (fun k_ hk => ⟨trivial, hk.2⟩))).1 k_ hk_.symm) ?aF ?aO (Below.refl _ _) ?aS ?aL ?_; (case aP => exact k26_mkM _ _ _ (⟨x8_1, 0, y263⟩ : S26) (Kd.R_mono (Kd.R_tight rfl (Kd.R_mono (ok' := fun k_ => ((fun _ => True)) k_ ∧ some k_ ≠ (u7 : Value).ownBlock) (Kd.R_apart' (HO265.out) (Kd.S_typed HO_7.out) (by decide)) (fun k_ hk => ⟨trivial, hk.2⟩))) (fun _ h_ => h_))); (case aF => exact (fun _ _ => trivial)); (case aO => exact (by (with_reducible repeat (first | apply Kd.S_alloc | apply Kd.S_drewN | apply Kd.S_drew)); exact Kd.S_mono HO_7.out (fun k_ hk => ⟨trivial, fun e_ => hk.2 e_⟩))); (case aS => exact (keep_size (w := w) (g := g) (row := none) (by repeat ((with_reducible exact HK.out))))); (case aL => have := LMc37.out; omega); intro v267 w42 ho hb hg hat; rw [← Ny266.out] at ho; have n0_ := Aside0.mk (IsS92.grown (by repeat ((with_reducible exact HI0.out))) hg (IsS92.own_neS HI0.out HO_7.out (by decide))); have n1_ := Aside0.mk (below_weaken (by repeat ((with_reducible exact HB.out))) HL.out hb); have n2_ := Aside0.mk (KeepBut.trans (by repeat ((with_reducible exact HK.out))) (KeepBut.of_grown hg g) (Kd.S_base2 HO_7.out)); have n3_ := Aside0.mk (ho); clear HI0; clear HB; clear HK; clear HO_7; clear HO265; have HI0 := n0_; have HB := n1_; have HK := n2_; have HO268 := n3_; clear n0_ n1_ n2_ n3_; clear ho hb hg hat))
    go_roundg k1
    case measure => have := HK1.out; omega
    case rel => exact ⟨(y266), (wrap64 (x8_1 + 1)), (t261), (t262), (by rfl), H', ⟨by have := HK1.out; omega⟩, ⟨by (with_reducible repeat (first | apply Kd.S_alloc | apply Kd.S_drewN | apply Kd.S_drew)); exact HO268.out⟩, ⟨by repeat ((with_reducible exact HI0.out))⟩, ⟨by repeat ((with_reducible exact HK.out))⟩, ⟨by repeat ((with_reducible exact HB.out))⟩⟩
 replace c11 := Bool.eq_false_iff.mpr c11
 subst c11
 have H1 : ((spec_l01Cur_once.f s0_0 t247 t248 20).bind fun bt269 => (if bt269.1 = true then (spec_l01Cur_stash.l0 k t229 t230 (([] : List (S26))) 0 s0_0 bt269.2.1 bt269.2.2) else (some (t241, t229, t230, bt269.2.1, bt269.2.2)))) = some (r1, r2, r3, r4, r5) := by rw [if_neg (show ¬ (false = true) by decide)] at H; exact H
 clear H
 have H := H1
 clear H1
 replace H := Option.bind_eq_some_iff.mp H
 obtain ⟨⟨t269, t270, t271⟩, A580, H⟩ := H
 replace H : (if t269 = true then (spec_l01Cur_stash.l0 k t229 t230 (([] : List (S26))) 0 s0_0 t270 t271) else (some (t241, t229, t230, t270, t271))) = some (r1, r2, r3, r4, r5) := H
 have A58 := Aside0.mk A580
 clear A580
 by_cases c59 : t269 = true
 rotate_left
 ·
  replace c59 := Bool.eq_false_iff.mpr c59
  subst c59
  have H1 : (some (t241, t229, t230, t270, t271)) = some (r1, r2, r3, r4, r5) := by rw [if_neg (show ¬ (false = true) by decide)] at H; exact H
  clear H
  have H := H1
  clear H1
  simp only [Option.some.injEq, Prod.mk.injEq] at H
  obtain ⟨rfl, rfl, rfl, rfl, rfl⟩ := H
  go_enter Try.func68, Try.ntmps68
  try go_wp2_with (((with_reducible refine gate_callee (f := 54) rfl ?_); refine goesL_ (some 11) rfl rfl Try.func54 (by kernel_rfl) rfl #[.pointer (some ⟨g, 0, none⟩)] rfl (by (try simp only [List.map_toArray, List.map_cons, List.map_nil]); rfl) ?_; (with_reducible refine (spec_l01Cur_frame.calls g s0_0 s0_1 s0_2 t229 t230 t231 t232 w0 _ ?side1 ?side2 A2.out).mono ?_); (case side1 => repeat ((with_reducible exact HI0.out))); (case side2 => repeat ((with_reducible exact HB.out))); rintro e w87 ⟨rfl, hi, hb, hk⟩; refine ⟨_, rfl, ?_⟩; have n0_ := Aside0.mk (KeepBut.trans (by repeat ((with_reducible exact HK.out))) hk (.inl rfl)); have n1_ := Aside0.mk (hb); have n2_ := Aside0.mk (hi); clear HK; clear HB; clear HI0; have HK := n0_; have HB := n1_; have HI0 := n2_; clear n0_ n1_ n2_; (try clear hb); (try clear hb2); (try clear hk); (try clear hi)))
  have pi239 : (0 ≤ (t236 : Int)) = True := eq_true (of_decide_eq_true (by (with_reducible assumption)))
  have qi239 : (t236 < (y233.length : Int)) = True := eq_true (of_decide_eq_true (by (with_reducible assumption)))
  replace HI0 := Aside0.mk (IsS92.drew HI0.out)
  replace HK := Aside0.mk (keep_drew HK.out)
  replace HB := Aside0.mk (below_drew1 HB.out)
  refine start_ (n := 13) (S := fun w' => True) (ds := []) #[false, false, false, false, false, false, false, false, false, false, false, false, false] (by kernel_rfl) rfl rfl trivial (fun hHeld => ?_); refine with_tabW spec_l01Cur_stash.tab2 spec_l01Cur_stash.bits2 (fun HT_ HW_ => ?_)
  generalize w87.drew = w88 at HI0 HK HB hHeld ⊢
  refine pure_ (i := 0) (N := some 14) (v := ?_) (a' := ?_) #[true, false, false, false, false, false, false, false, false, false, false, false, false] rfl rfl (any_of HT_.out (by kernel_rfl)) (fun _ _ _ h => h) (Or.inl ⟨by rfl, ?_⟩) ?_ ?_
  rotate_left
  ·
   intro w'
   go_simp
   with_reducible rfl
  rotate_left
  ·
   simp only [Act.put, List.setIfInBounds_toArray, List.set_cons_zero, List.set_cons_succ, i64_w, i32_w]
   rfl
  refine pure_ (i := 2) (N := some 16) (v := ?_) (a' := ?_) #[true, false, true, false, false, false, false, false, false, false, false, false, false] rfl rfl (any_of HT_.out (by kernel_rfl)) (fun _ _ _ h => h) (Or.inl ⟨by rfl, ?_⟩) ?_ ?_
  rotate_left
  ·
   intro w'
   go_simp
   with_reducible rfl
  rotate_left
  ·
   simp only [Act.put, List.setIfInBounds_toArray, List.set_cons_zero, List.set_cons_succ, i64_w, i32_w]
   rfl
  refine pure_ (i := 6) (N := some 20) (v := ?_) (a' := ?_) #[true, false, true, false, false, false, true, false, false, false, false, false, false] rfl rfl (any_of HT_.out (by kernel_rfl)) (fun _ _ _ h => h) (Or.inl ⟨by rfl, ?_⟩) ?_ ?_
  rotate_left
  ·
   intro w'
   go_simp
   with_reducible rfl
  rotate_left
  ·
   simp only [Act.put, List.setIfInBounds_toArray, List.set_cons_zero, List.set_cons_succ, i64_w, i32_w]
   rfl
  refine pure_ (i := 8) (N := some 22) (v := ?_) (a' := ?_) #[true, false, true, false, false, false, true, false, true, false, false, false, false] rfl rfl (any_of HT_.out (by kernel_rfl)) (fun _ _ _ h => h) (Or.inl ⟨by rfl, ?_⟩) ?_ ?_
  rotate_left
  ·
   intro w'
   go_simp
   with_reducible rfl
  rotate_left
  ·
   simp only [Act.put, List.setIfInBounds_toArray, List.set_cons_zero, List.set_cons_succ, i64_w, i32_w]
   rfl
  refine inv_at [1, 3, 4, 5, 7, 9, 10, 11, 12] (fun a0_ b a w' => ∃ (v234 : Value) (adz_v234 : Addr) (v242 : Value) (m4_ : Value) (m12_ : Value), a = putSel a0_ b [(1, 15, v234), (3, 17, .int .i64 t236), (4, 18, m4_), (5, 19, .int .i64 (rd y233 t236)), (7, 21, .int .i64 t240), (9, 23, .int .i64 ji7), (10, 24, .int .i64 ji8), (11, 25, v242), (12, 7, m12_)] ∧ (b 3 = false → IsS92 w0 w' g s0_0 t231 t232) ∧ (KeepBut w w' g none) ∧ (Below w0.heap.size w0 w') ∧ (b 1 = true → Kd.R (Kd.int .i64) 3 w' w.heap.size (fun _ => True) v234 y233) ∧ (b 1 = true → ∃ c_, (v234 : Value) = .slice (some adz_v234) y233.length c_) ∧ (b 3 = true → b 11 = false → IsS92 w0 w' g s0_0 t237 t238) ∧ (b 11 = true → Kd.S k26 26 w' w.heap.size (fun _ => True) v242 t241) ∧ (b 11 = true → IsS92 w0 w' g s0_0 t244 t245) ∧ (b 4 = true → (m4_ : Value) = .pointer (some (adz_v234.add (t236).toNat))) ∧ (b 12 = true → (m12_ : Value) = v242)) HT_.out HW_.out (by kernel_rfl) (by kernel_rfl) ?_ ?_ ?_
  ·
   exact ⟨.bool false, ⟨0, 0, none⟩, .bool false, .bool false, .bool false, by simp only [putSel, Bool.false_eq_true, if_false], fun _ => HI0.out, HK.out, HB.out, fun h_ => absurd h_ (by decide), fun h_ => absurd h_ (by decide), fun h_ => absurd h_ (by decide), fun h_ => absurd h_ (by decide), fun h_ => absurd h_ (by decide), fun h_ => absurd h_ (by decide), fun h_ => absurd h_ (by decide)⟩
  ·
   skip
   clear HB HI0 HK
   refine steps_cons ?_ ?_
   ·
    rintro b a w' ⟨v234, adz_v234, v242, m4_, m12_, ha, Q_HI0, Q_HK, Q_HB, Q_HO235, Q_HA_HO235, Q_HI0_e3, Q_HO243, Q_HI0_e11, Q_X4_, Q_X12_⟩ hb_ hon hoff
    refine ⟨_, rfl, fun K hK => ?_⟩
    replace ha := Aside0.mk ha
    have HK := Aside0.mk Q_HK
    have HB := Aside0.mk Q_HB
    refine Kd.R_lit_step (Kd.int .i64) _ 3 ?hg (N := 15) ?hd (xs := ([4, 14, 30] : List Int)) (inner := [.int .i64 4, .int .i64 14, .int .i64 30]) (ok := fun _ => True) (okp := fun _ => True) ?hr ?hp (fun _ hk => hk) trivial (Below.refl _ _) (Nat.le_refl _) (by simp) ?_; (case hd => rfl); (case hg => rfl); (case hr => (go_simp; done)); (case hp => exact (Reps.one (show Kd.M (Kd.int .i64) _ _ _ 4 [.int .i64 4] from rfl) (Reps.one (show Kd.M (Kd.int .i64) _ _ _ 14 [.int .i64 14] from rfl) (Reps.one (show Kd.M (Kd.int .i64) _ _ _ 30 [.int .i64 30] from rfl) (Reps.none _ _)))))
    intro v234 w89 ho90 hb hg_ hnew_
    clear hg_ hnew_
    (rw [← Ny233.out] at ho90)
    have n0_ := Aside0.mk (Kd.R_lower ho90 (keep_size (w := w) (g := g) (row := none) (by repeat ((with_reducible exact HK.out)))))
    have n2_ := Aside0.mk (KeepBut.trans (by repeat ((with_reducible exact HK.out))) (KeepBut.of_below hb g none) (.inl rfl))
    have n3_ := Aside0.mk (below_step (by repeat ((with_reducible exact HB.out))) hb)
    have z_HI0 := fun (h0_ : b 3 = false) => (show IsS92 w0 w89 g s0_0 t231 t232 from by exact (IsS92.below (by repeat ((with_reducible exact (Q_HI0 h0_)))) hb))
    have z_HI0_e3 := fun (h0_ : b 3 = true) (h1_ : b 11 = false) => (show IsS92 w0 w89 g s0_0 t237 t238 from by exact (IsS92.below (by repeat ((with_reducible exact (Q_HI0_e3 h0_ h1_)))) hb))
    clear HK
    clear HB
    have HO235 := n0_
    have HK := n2_
    have HB := n3_
    clear n0_ n2_ n3_
    clear hb ho90
    obtain ⟨Ao91, co91, eo91⟩ := Kd.R_slice HO235.out
    subst eo91
    obtain ⟨ado91, fo91, _⟩ := Kd.at_int (Kd.R_reads' HO235.out).2.2 0 (by decide) (by rw [Ny233.out]; simp)
    cases fo91
    refine hK.out _ _ ⟨.slice (some ado91) y233.length co91, ado91, v242, m4_, m12_, (by rw [ha.out]; exact putSel_upk 0 hb_ rfl rfl rfl), z_HI0, (by repeat ((with_reducible exact HK.out))), (by repeat ((with_reducible exact HB.out))), fun _ => (by (with_reducible repeat (first | apply Kd.R_alloc | apply Kd.R_drewN | apply Kd.R_drew)); exact HO235.out), fun _ => ⟨_, rfl⟩, z_HI0_e3, fun h0_ => absurd ((hoff 11 (by kernel_rfl)).symm.trans h0_) (by decide), fun h0_ => absurd ((hoff 11 (by kernel_rfl)).symm.trans h0_) (by decide), fun h0_ => absurd ((hoff 4 (by kernel_rfl)).symm.trans h0_) (by decide), fun h0_ => absurd ((hoff 12 (by kernel_rfl)).symm.trans h0_) (by decide)⟩
   refine steps_cons ?_ ?_
   ·
    rintro b a w' ⟨v234, adz_v234, v242, m4_, m12_, ha, Q_HI0, Q_HK, Q_HB, Q_HO235, Q_HA_HO235, Q_HI0_e3, Q_HO243, Q_HI0_e11, Q_X4_, Q_X12_⟩ hb_ hon hoff
    refine ⟨_, rfl, fun K hK => ?_⟩
    have e16 : a.tmps[16]? = some (.pointer (some ⟨g, 0, none⟩)) := by rw [ha]; exact (putSel_off rfl).trans rfl
    replace ha := Aside0.mk ha
    have HI0 := Aside0.mk (Q_HI0 hb_)
    have HK := Aside0.mk Q_HK
    have HB := Aside0.mk Q_HB
    refine goes_ Try.func82 (by kernel_rfl) rfl #[.pointer (some ⟨g, 0, none⟩), .int .i64 3] (by rfl) rfl rfl (by (simp only [List.map_toArray, List.map_cons, List.map_nil, Act.eval, Array.getD_eq_getD_getElem?, Option.getD_some, e16]; done)) ?_
    with_reducible refine (spec_l01Cur_pick.calls g s0_0 t231 t232 3 t236 t237 t238 w0 _ ?side1 ?side2 A3.out).mono ?_
    (case side1 => repeat ((with_reducible exact HI0.out)))
    (case side2 => repeat ((with_reducible exact HB.out)))
    rintro e w89 ⟨rfl, hi, hb, hk⟩
    refine ⟨_, rfl, ?_⟩
    have n0_ := Aside0.mk (KeepBut.trans (by repeat ((with_reducible exact HK.out))) hk (.inl rfl))
    have n1_ := Aside0.mk (hb)
    have n2_ := Aside0.mk (hi)
    have z_HO235 := fun (h0_ : b 1 = true) => (show Kd.R (Kd.int .i64) 3 w89 w.heap.size (fun _ => True) v234 y233 from by exact (Kd.R_mono (Kd.R_keep (IsS92.apart (show IsS92 w0 _ g s0_0 t231 t232 from by repeat ((with_reducible exact HI0.out))) (by (with_reducible repeat (first | apply Kd.R_alloc | apply Kd.R_drewN | apply Kd.R_drew)); exact (Q_HO235 h0_)) (by decide)) hk (fun _ h => h.2)) (fun _ h => h.1)))
    clear HK
    clear HB
    clear HI0
    have HK := n0_
    have HB := n1_
    have HI0 := n2_
    clear n0_ n1_ n2_
    (try clear hb)
    (try clear hb2)
    (try clear hk)
    (try clear hi)
    refine hK.out _ _ ⟨v234, adz_v234, v242, m4_, m12_, (by rw [ha.out]; exact putSel_upk 1 hb_ rfl rfl rfl), fun h0_ => absurd ((up_self b 3).symm.trans h0_) (by decide), (by repeat ((with_reducible exact HK.out))), (by repeat ((with_reducible exact HB.out))), z_HO235, Q_HA_HO235, fun _ _ => (by repeat ((with_reducible exact HI0.out))), fun h0_ => absurd ((hoff 11 (by kernel_rfl)).symm.trans h0_) (by decide), fun h0_ => absurd ((hoff 11 (by kernel_rfl)).symm.trans h0_) (by decide), fun h0_ => absurd ((hoff 4 (by kernel_rfl)).symm.trans h0_) (by decide), fun h0_ => absurd ((hoff 12 (by kernel_rfl)).symm.trans h0_) (by decide)⟩
   refine steps_cons ?_ ?_
   ·
    rintro b a w' ⟨v234, adz_v234, v242, m4_, m12_, ha, Q_HI0, Q_HK, Q_HB, Q_HO235, Q_HA_HO235, Q_HI0_e3, Q_HO243, Q_HI0_e11, Q_X4_, Q_X12_⟩ hb_ hon hoff
    refine ⟨_, rfl, fun K hK => ?_⟩
    have e15 : a.tmps[15]? = some (v234) := by rw [ha]; exact putSel_on (e := (1, 15, v234)) 0 rfl rfl (hon 1 (by kernel_rfl)) rfl
    have e17 : a.tmps[17]? = some (.int .i64 t236) := by rw [ha]; exact putSel_on (e := (3, 17, .int .i64 t236)) 1 rfl rfl (hon 3 (by kernel_rfl)) rfl
    replace ha := Aside0.mk ha
    have HK := Aside0.mk Q_HK
    have HB := Aside0.mk Q_HB
    have HO235 := Aside0.mk (Q_HO235 (hon 1 (by kernel_rfl)))
    have HA_HO235 := Aside0.mk (Q_HA_HO235 (hon 1 (by kernel_rfl)))
    have HI0 := Aside0.mk (Q_HI0_e3 (hon 3 (by kernel_rfl)) (hoff 11 (by kernel_rfl)))
    obtain ⟨c_, hv_⟩ := HA_HO235.out
    rw [hv_] at e15
    refine value_ (w1 := w') (v := .pointer (some (adz_v234.add (t236).toNat))) (by rfl) rfl ?_ ?_
    ·
     go_simp
     (try simp only [i64_w])
     try rfl
    refine hK.out _ _ ⟨v234, adz_v234, v242, (.pointer (some (adz_v234.add (t236).toNat))), m12_, (by rw [ha.out]; exact putSel_upk 2 hb_ rfl rfl rfl), fun h0_ => absurd ((hon 3 (by kernel_rfl)).symm.trans h0_) (by decide), Q_HK, Q_HB, Q_HO235, Q_HA_HO235, Q_HI0_e3, fun h0_ => absurd ((hoff 11 (by kernel_rfl)).symm.trans h0_) (by decide), fun h0_ => absurd ((hoff 11 (by kernel_rfl)).symm.trans h0_) (by decide), fun _ => rfl, fun h0_ => absurd ((hoff 12 (by kernel_rfl)).symm.trans h0_) (by decide)⟩
   refine steps_cons ?_ ?_
   ·
    rintro b a w' ⟨v234, adz_v234, v242, m4_, m12_, ha, Q_HI0, Q_HK, Q_HB, Q_HO235, Q_HA_HO235, Q_HI0_e3, Q_HO243, Q_HI0_e11, Q_X4_, Q_X12_⟩ hb_ hon hoff
    refine ⟨_, rfl, fun K hK => ?_⟩
    have e18 : a.tmps[18]? = some (m4_) := by rw [ha]; exact putSel_on (e := (4, 18, m4_)) 2 rfl rfl (hon 4 (by kernel_rfl)) rfl
    rw [Q_X4_ (hon 4 (by kernel_rfl))] at e18
    replace ha := Aside0.mk ha
    have HK := Aside0.mk Q_HK
    have HB := Aside0.mk Q_HB
    have HO235 := Aside0.mk (Q_HO235 (hon 1 (by kernel_rfl)))
    have HA_HO235 := Aside0.mk (Q_HA_HO235 (hon 1 (by kernel_rfl)))
    have HI0 := Aside0.mk (Q_HI0_e3 (hon 3 (by kernel_rfl)) (hoff 11 (by kernel_rfl)))
    obtain ⟨c_, hv_⟩ := HA_HO235.out
    have hF_ := HO235.out
    rw [hv_] at hF_
    obtain ⟨ad_, ea_, hx_⟩ := Kd.at_int (Kd.R_reads' hF_).2.2 t236 (of_eq_true pi239) (of_eq_true qi239)
    cases ea_
    refine value_ (w1 := w') (v := .int .i64 (rd y233 t236)) (by rfl) rfl ?_ ?_
    ·
     go_simp
     (try simp only [i64_w])
     try rfl
    refine hK.out _ _ ⟨v234, adz_v234, v242, m4_, m12_, (by rw [ha.out]; exact putSel_upk 3 hb_ rfl rfl rfl), fun h0_ => absurd ((hon 3 (by kernel_rfl)).symm.trans h0_) (by decide), Q_HK, Q_HB, Q_HO235, Q_HA_HO235, Q_HI0_e3, fun h0_ => absurd ((hoff 11 (by kernel_rfl)).symm.trans h0_) (by decide), fun h0_ => absurd ((hoff 11 (by kernel_rfl)).symm.trans h0_) (by decide), Q_X4_, fun h0_ => absurd ((hoff 12 (by kernel_rfl)).symm.trans h0_) (by decide)⟩
   refine steps_cons ?_ ?_
   ·
    rintro b a w' ⟨v234, adz_v234, v242, m4_, m12_, ha, Q_HI0, Q_HK, Q_HB, Q_HO235, Q_HA_HO235, Q_HI0_e3, Q_HO243, Q_HI0_e11, Q_X4_, Q_X12_⟩ hb_ hon hoff
    refine ⟨_, rfl, fun K hK => ?_⟩
    have e20 : a.tmps[20]? = some (.int .i64 t229) := by rw [ha]; exact (putSel_off rfl).trans rfl
    replace ha := Aside0.mk ha
    have HK := Aside0.mk Q_HK
    have HB := Aside0.mk Q_HB
    have HI0 := Aside0.mk (Q_HI0_e3 (hon 3 (by kernel_rfl)) (hoff 11 (by kernel_rfl)))
    refine goes_ Try.func57 (by kernel_rfl) rfl #[.int .i64 t229] (by rfl) rfl rfl (by (simp only [List.map_toArray, List.map_cons, List.map_nil, Act.eval, Array.getD_eq_getD_getElem?, Option.getD_some, e20]; done)) ?_
    with_reducible refine (spec_l12Clip.calls t229 t240 _ A6.out).mono ?_
    rintro e w91 ⟨rfl, hb⟩
    refine ⟨_, rfl, ?_⟩
    have n0_ := Aside0.mk (IsS92.below (by repeat ((with_reducible exact HI0.out))) hb)
    have n1_ := Aside0.mk (KeepBut.trans (by repeat ((with_reducible exact HK.out))) (KeepBut.of_below hb g none) (.inl rfl))
    have n2_ := Aside0.mk (below_step (by repeat ((with_reducible exact HB.out))) hb)
    have z_HO235 := fun (h0_ : b 1 = true) => (show Kd.R (Kd.int .i64) 3 w91 w.heap.size (fun _ => True) v234 y233 from by exact (Kd.R_below (by (with_reducible repeat (first | apply Kd.R_alloc | apply Kd.R_drewN | apply Kd.R_drew)); exact (Q_HO235 h0_)) hb))
    clear HI0
    clear HK
    clear HB
    have HI0 := n0_
    have HK := n1_
    have HB := n2_
    clear n0_ n1_ n2_
    (try clear hb)
    (try clear hb2)
    (try clear hk)
    (try clear hi)
    refine hK.out _ _ ⟨v234, adz_v234, v242, m4_, m12_, (by rw [ha.out]; exact putSel_upk 4 hb_ rfl rfl rfl), fun h0_ => absurd ((hon 3 (by kernel_rfl)).symm.trans h0_) (by decide), (by repeat ((with_reducible exact HK.out))), (by repeat ((with_reducible exact HB.out))), z_HO235, Q_HA_HO235, fun _ _ => (by repeat ((with_reducible exact HI0.out))), fun h0_ => absurd ((hoff 11 (by kernel_rfl)).symm.trans h0_) (by decide), fun h0_ => absurd ((hoff 11 (by kernel_rfl)).symm.trans h0_) (by decide), Q_X4_, fun h0_ => absurd ((hoff 12 (by kernel_rfl)).symm.trans h0_) (by decide)⟩
   refine steps_cons ?_ ?_
   ·
    rintro b a w' ⟨v234, adz_v234, v242, m4_, m12_, ha, Q_HI0, Q_HK, Q_HB, Q_HO235, Q_HA_HO235, Q_HI0_e3, Q_HO243, Q_HI0_e11, Q_X4_, Q_X12_⟩ hb_ hon hoff
    refine ⟨_, rfl, fun K hK => ?_⟩
    have e22 : a.tmps[22]? = some (.int .i64 t230) := by rw [ha]; exact (putSel_off rfl).trans rfl
    replace ha := Aside0.mk ha
    have HK := Aside0.mk Q_HK
    have HB := Aside0.mk Q_HB
    refine value_ (w1 := w') (v := .int .i64 ji7) (by rfl) rfl ?_ ?_
    ·
     go_simp
     (try simp only [i64_w])
     try rfl
    refine hK.out _ _ ⟨v234, adz_v234, v242, m4_, m12_, (by rw [ha.out]; exact putSel_upk 5 hb_ rfl rfl rfl), Q_HI0, Q_HK, Q_HB, Q_HO235, Q_HA_HO235, Q_HI0_e3, fun h0_ => absurd ((hoff 11 (by kernel_rfl)).symm.trans h0_) (by decide), fun h0_ => absurd ((hoff 11 (by kernel_rfl)).symm.trans h0_) (by decide), Q_X4_, fun h0_ => absurd ((hoff 12 (by kernel_rfl)).symm.trans h0_) (by decide)⟩
   refine steps_cons ?_ ?_
   ·
    rintro b a w' ⟨v234, adz_v234, v242, m4_, m12_, ha, Q_HI0, Q_HK, Q_HB, Q_HO235, Q_HA_HO235, Q_HI0_e3, Q_HO243, Q_HI0_e11, Q_X4_, Q_X12_⟩ hb_ hon hoff
    refine ⟨_, rfl, fun K hK => ?_⟩
    have e23 : a.tmps[23]? = some (.int .i64 ji7) := by rw [ha]; exact putSel_on (e := (9, 23, .int .i64 ji7)) 5 rfl rfl (hon 9 (by kernel_rfl)) rfl
    replace ha := Aside0.mk ha
    have HK := Aside0.mk Q_HK
    have HB := Aside0.mk Q_HB
    refine value_ (w1 := w') (v := .int .i64 ji8) (by rfl) rfl ?_ ?_
    ·
     go_simp
     (try simp only [i64_w])
     try rfl
    refine hK.out _ _ ⟨v234, adz_v234, v242, m4_, m12_, (by rw [ha.out]; exact putSel_upk 6 hb_ rfl rfl rfl), Q_HI0, Q_HK, Q_HB, Q_HO235, Q_HA_HO235, Q_HI0_e3, fun h0_ => absurd ((hoff 11 (by kernel_rfl)).symm.trans h0_) (by decide), fun h0_ => absurd ((hoff 11 (by kernel_rfl)).symm.trans h0_) (by decide), Q_X4_, fun h0_ => absurd ((hoff 12 (by kernel_rfl)).symm.trans h0_) (by decide)⟩
   refine steps_cons ?_ ?_
   ·
    rintro b a w' ⟨v234, adz_v234, v242, m4_, m12_, ha, Q_HI0, Q_HK, Q_HB, Q_HO235, Q_HA_HO235, Q_HI0_e3, Q_HO243, Q_HI0_e11, Q_X4_, Q_X12_⟩ hb_ hon hoff
    refine ⟨_, rfl, fun K hK => ?_⟩
    have e14 : a.tmps[14]? = some (.pointer (some ⟨g, 0, none⟩)) := by rw [ha]; exact (putSel_off rfl).trans rfl
    have e19 : a.tmps[19]? = some (.int .i64 (rd y233 t236)) := by rw [ha]; exact putSel_on (e := (5, 19, .int .i64 (rd y233 t236))) 3 rfl rfl (hon 5 (by kernel_rfl)) rfl
    have e21 : a.tmps[21]? = some (.int .i64 t240) := by rw [ha]; exact putSel_on (e := (7, 21, .int .i64 t240)) 4 rfl rfl (hon 7 (by kernel_rfl)) rfl
    have e24 : a.tmps[24]? = some (.int .i64 ji8) := by rw [ha]; exact putSel_on (e := (10, 24, .int .i64 ji8)) 6 rfl rfl (hon 10 (by kernel_rfl)) rfl
    replace ha := Aside0.mk ha
    have HK := Aside0.mk Q_HK
    have HB := Aside0.mk Q_HB
    have HO235 := Aside0.mk (Q_HO235 (hon 1 (by kernel_rfl)))
    have HA_HO235 := Aside0.mk (Q_HA_HO235 (hon 1 (by kernel_rfl)))
    have HI0 := Aside0.mk (Q_HI0_e3 (hon 3 (by kernel_rfl)) hb_)
    obtain ⟨co95, eo95⟩ := HA_HO235.out
    clear HA_HO235
    subst eo95
    refine goes_ Try.func56 (by kernel_rfl) rfl #[.pointer (some ⟨g, 0, none⟩), .int .i64 (rd y233 t236), .int .i64 t240, .int .i64 ji8] (by rfl) rfl rfl (by (simp only [List.map_toArray, List.map_cons, List.map_nil, Act.eval, Array.getD_eq_getD_getElem?, Option.getD_some, e14, e19, e21, e24]; done)) ?_
    with_reducible refine (spec_l01Cur_blocks.calls k g s0_0 t237 t238 (rd y233 t236) t240 ji8 t241 t244 t245 w0 _ ?side1 ?side2 A9.out).mono ?_
    (case side1 => repeat ((with_reducible exact HI0.out)))
    (case side2 => repeat ((with_reducible exact HB.out)))
    rintro e w96 ⟨v242, rfl, ho0, hi, hb, hk⟩
    refine ⟨_, rfl, ?_⟩
    have HO243 := Aside0.mk (Kd.S_lower ho0 (keep_size (w := w) (g := g) (row := none) (by repeat ((with_reducible exact HK.out)))))
    replace HO235 := Aside0.mk (Kd.R_mono (Kd.R_keep (IsS92.apart (show IsS92 w0 _ g s0_0 t237 t238 from by repeat ((with_reducible exact HI0.out))) (by (with_reducible repeat (first | apply Kd.R_alloc | apply Kd.R_drewN | apply Kd.R_drew)); exact HO235.out) (by decide)) hk (fun _ h => h.2)) (fun _ h => h.1))
    replace HK := Aside0.mk (KeepBut.trans (by repeat ((with_reducible exact HK.out))) hk (.inl rfl))
    replace HB := Aside0.mk (hb)
    replace HI0 := Aside0.mk (hi)
    (try clear hb)
    (try clear hb2)
    (try clear hk)
    (try clear hi)
    (try clear ho0)
    refine hK.out _ _ ⟨.slice (some adz_v234) y233.length co95, adz_v234, v242, m4_, m12_, (by rw [ha.out]; exact putSel_upk 7 hb_ rfl rfl rfl), fun h0_ => absurd ((hon 3 (by kernel_rfl)).symm.trans h0_) (by decide), (by repeat ((with_reducible exact HK.out))), (by repeat ((with_reducible exact HB.out))), fun _ => (by (with_reducible repeat (first | apply Kd.R_alloc | apply Kd.R_drewN | apply Kd.R_drew)); exact HO235.out), fun _ => ⟨_, rfl⟩, fun _ h1_ => absurd ((up_self b 11).symm.trans h1_) (by decide), fun _ => (by (with_reducible repeat (first | apply Kd.S_alloc | apply Kd.S_drewN | apply Kd.S_drew)); exact HO243.out), fun _ => (by repeat ((with_reducible exact HI0.out))), Q_X4_, fun h0_ => absurd ((hoff 12 (by kernel_rfl)).symm.trans h0_) (by decide)⟩
   refine steps_cons ?_ ?_
   ·
    rintro b a w' ⟨v234, adz_v234, v242, m4_, m12_, ha, Q_HI0, Q_HK, Q_HB, Q_HO235, Q_HA_HO235, Q_HI0_e3, Q_HO243, Q_HI0_e11, Q_X4_, Q_X12_⟩ hb_ hon hoff
    refine ⟨_, rfl, fun K hK => ?_⟩
    have e25 : a.tmps[25]? = some (v242) := by rw [ha]; exact putSel_on (e := (11, 25, v242)) 7 rfl rfl (hon 11 (by kernel_rfl)) rfl
    replace ha := Aside0.mk ha
    have HK := Aside0.mk Q_HK
    have HB := Aside0.mk Q_HB
    have HO235 := Aside0.mk (Q_HO235 (hon 1 (by kernel_rfl)))
    have HA_HO235 := Aside0.mk (Q_HA_HO235 (hon 1 (by kernel_rfl)))
    have HO243 := Aside0.mk (Q_HO243 (hon 11 (by kernel_rfl)))
    have HI0 := Aside0.mk (Q_HI0_e11 (hon 11 (by kernel_rfl)))
    refine value_ (w1 := w') (v := v242) (by rfl) rfl ?_ ?_
    ·
     go_simp
     (try simp only [i64_w])
     try rfl
    refine hK.out _ _ ⟨v234, adz_v234, v242, m4_, (v242), (by rw [ha.out]; exact putSel_upk 8 hb_ rfl rfl rfl), fun h0_ => absurd ((hon 3 (by kernel_rfl)).symm.trans h0_) (by decide), Q_HK, Q_HB, Q_HO235, Q_HA_HO235, fun _ h1_ => absurd ((hon 11 (by kernel_rfl)).symm.trans h1_) (by decide), Q_HO243, Q_HI0_e11, Q_X4_, fun _ => rfl⟩
   exact steps_nil
  rintro b a w95 hall ⟨v234, adz_v234, v242, m4_, m12_, ha, Q_HI0, Q_HK, Q_HB, Q_HO235, Q_HA_HO235, Q_HI0_e3, Q_HO243, Q_HI0_e11, Q_X4_, Q_X12_⟩
  clear HB HI0 HK
  have hb1_ := hall 1 (by kernel_rfl)
  have hb3_ := hall 3 (by kernel_rfl)
  have hb4_ := hall 4 (by kernel_rfl)
  have hb5_ := hall 5 (by kernel_rfl)
  have hb7_ := hall 7 (by kernel_rfl)
  have hb9_ := hall 9 (by kernel_rfl)
  have hb10_ := hall 10 (by kernel_rfl)
  have hb11_ := hall 11 (by kernel_rfl)
  have hb12_ := hall 12 (by kernel_rfl)
  subst ha
  obtain rfl := Q_X4_ hb4_
  obtain rfl := Q_X12_ hb12_
  simp only [putSel, hb1_, hb3_, hb4_, hb5_, hb7_, hb9_, hb10_, hb11_, hb12_, if_true, Act.put, List.setIfInBounds_toArray, List.set_cons_zero, List.set_cons_succ]
  clear Q_HI0
  have HK := Aside0.mk Q_HK
  clear Q_HK
  have HB := Aside0.mk Q_HB
  clear Q_HB
  have HO235 := Aside0.mk (Q_HO235 hb1_)
  clear Q_HO235
  have HA_HO235 := Aside0.mk (Q_HA_HO235 hb1_)
  clear Q_HA_HO235
  clear Q_HI0_e3
  have HO243 := Aside0.mk (Q_HO243 hb11_)
  clear Q_HO243
  have HI0 := Aside0.mk (Q_HI0_e11 hb11_)
  clear Q_HI0_e11
  clear hall hb1_ hb3_ hb4_ hb5_ hb7_ hb9_ hb10_ hb11_ hb12_
  obtain ⟨co96, eo96⟩ := HA_HO235.out
  clear HA_HO235
  subst eo96
  try go_wp2_with (first | ((with_reducible refine gate_callee (f := 80) rfl ?_); refine goesL_ (some 27) rfl rfl Try.func80 (by kernel_rfl) rfl #[.pointer (some ⟨g, 0, none⟩), .int .i64 5] rfl (by (try simp only [List.map_toArray, List.map_cons, List.map_nil]); rfl) ?_; (with_reducible refine (spec_l01Cur_once.calls g s0_0 t244 t245 5 false t247 t248 w0 _ ?side1 ?side2 A10.out).mono ?_); (case side1 => repeat ((with_reducible exact HI0.out))); (case side2 => repeat ((with_reducible exact HB.out))); rintro e w97 ⟨rfl, hi, hb, hk⟩; refine ⟨_, rfl, ?_⟩; have n0_ := Aside0.mk (Kd.R_mono (Kd.R_keep (IsS92.apart (show IsS92 w0 _ g s0_0 t244 t245 from by repeat ((with_reducible exact HI0.out))) (by (with_reducible repeat (first | apply Kd.R_alloc | apply Kd.R_drewN | apply Kd.R_drew)); exact HO235.out) (by decide)) hk (fun _ h => h.2)) (fun _ h => h.1)); have n1_ := Aside0.mk (Kd.S_mono (Kd.S_keep (IsS92.apartS (show IsS92 w0 _ g s0_0 t244 t245 from by repeat ((with_reducible exact HI0.out))) (by (with_reducible repeat (first | apply Kd.S_alloc | apply Kd.S_drewN | apply Kd.S_drew)); exact HO243.out) (by decide)) hk (fun _ h => h.2)) (fun _ h => h.1)); have n2_ := Aside0.mk (KeepBut.trans (by repeat ((with_reducible exact HK.out))) hk (.inl rfl)); have n3_ := Aside0.mk (hb); have n4_ := Aside0.mk (hi); clear HO235; clear HO243; clear HK; clear HB; clear HI0; have HO235 := n0_; have HO243 := n1_; have HK := n2_; have HB := n3_; have HI0 := n4_; clear n0_ n1_ n2_ n3_ n4_; (try clear hb); (try clear hb2); (try clear hk); (try clear hi)) | ((with_reducible refine gate_callee (f := 80) rfl ?_); refine goesL_ (some 32) rfl rfl Try.func80 (by kernel_rfl) rfl #[.pointer (some ⟨g, 0, none⟩), .int .i64 20] rfl (by (try simp only [List.map_toArray, List.map_cons, List.map_nil]); rfl) ?_; (with_reducible refine (spec_l01Cur_once.calls g s0_0 t247 t248 20 false t270 t271 w0 _ ?side1 ?side2 A58.out).mono ?_); (case side1 => repeat ((with_reducible exact HI0.out))); (case side2 => repeat ((with_reducible exact HB.out))); rintro e w98 ⟨rfl, hi, hb, hk⟩; refine ⟨_, rfl, ?_⟩; have n0_ := Aside0.mk (Kd.R_mono (Kd.R_keep (IsS92.apart (show IsS92 w0 _ g s0_0 t247 t248 from by repeat ((with_reducible exact HI0.out))) (by (with_reducible repeat (first | apply Kd.R_alloc | apply Kd.R_drewN | apply Kd.R_drew)); exact HO235.out) (by decide)) hk (fun _ h => h.2)) (fun _ h => h.1)); have n1_ := Aside0.mk (Kd.S_mono (Kd.S_keep (IsS92.apartS (show IsS92 w0 _ g s0_0 t247 t248 from by repeat ((with_reducible exact HI0.out))) (by (with_reducible repeat (first | apply Kd.S_alloc | apply Kd.S_drewN | apply Kd.S_drew)); exact HO243.out) (by decide)) hk (fun _ h => h.2)) (fun _ h => h.1)); have n2_ := Aside0.mk (KeepBut.trans (by repeat ((with_reducible exact HK.out))) hk (.inl rfl)); have n3_ := Aside0.mk (hb); have n4_ := Aside0.mk (hi); clear HO235; clear HO243; clear HK; clear HB; clear HI0; have HO235 := n0_; have HO243 := n1_; have HK := n2_; have HB := n3_; have HI0 := n4_; clear n0_ n1_ n2_ n3_ n4_; (try clear hb); (try clear hb2); (try clear hk); (try clear hi)))
  go_ret3
  exact ⟨_, by rfl, by (with_reducible repeat (first | apply Kd.S_alloc | apply Kd.S_drewN | apply Kd.S_drew)); exact HO243.out, by repeat ((with_reducible exact HI0.out)), by repeat ((with_reducible exact HB.out)), by repeat ((with_reducible exact HK.out))⟩
 subst c59
 have H1 : (spec_l01Cur_stash.l0 k t229 t230 (([] : List (S26))) 0 s0_0 t270 t271) = some (r1, r2, r3, r4, r5) := by rw [if_pos rfl] at H; exact H
 clear H
 have H := H1
 clear H1
 obtain ⟨y272, hy272⟩ : ∃ y_ : List (S26), y_ = (([] : List (S26))) := ⟨_, rfl⟩
 replace H : (spec_l01Cur_stash.l0 k t229 t230 y272 0 s0_0 t270 t271) = some (r1, r2, r3, r4, r5) := by (rw [hy272]; with_reducible exact H)
 have Ny272 := Aside0.mk hy272
 clear hy272
 have H' := Aside0.mk H
 clear H
 go_enter Try.func68, Try.ntmps68
 try go_wp2_with (((with_reducible refine gate_callee (f := 54) rfl ?_); refine goesL_ (some 11) rfl rfl Try.func54 (by kernel_rfl) rfl #[.pointer (some ⟨g, 0, none⟩)] rfl (by (try simp only [List.map_toArray, List.map_cons, List.map_nil]); rfl) ?_; (with_reducible refine (spec_l01Cur_frame.calls g s0_0 s0_1 s0_2 t229 t230 t231 t232 w0 _ ?side1 ?side2 A2.out).mono ?_); (case side1 => repeat ((with_reducible exact HI0.out))); (case side2 => repeat ((with_reducible exact HB.out))); rintro e w60 ⟨rfl, hi, hb, hk⟩; refine ⟨_, rfl, ?_⟩; have n0_ := Aside0.mk (KeepBut.trans (by repeat ((with_reducible exact HK.out))) hk (.inl rfl)); have n1_ := Aside0.mk (hb); have n2_ := Aside0.mk (hi); clear HK; clear HB; clear HI0; have HK := n0_; have HB := n1_; have HI0 := n2_; clear n0_ n1_ n2_; (try clear hb); (try clear hb2); (try clear hk); (try clear hi)))
 have pi239 : (0 ≤ (t236 : Int)) = True := eq_true (of_decide_eq_true (by (with_reducible assumption)))
 have qi239 : (t236 < (y233.length : Int)) = True := eq_true (of_decide_eq_true (by (with_reducible assumption)))
 replace HI0 := Aside0.mk (IsS92.drew HI0.out)
 replace HK := Aside0.mk (keep_drew HK.out)
 replace HB := Aside0.mk (below_drew1 HB.out)
 refine start_ (n := 13) (S := fun w' => True) (ds := []) #[false, false, false, false, false, false, false, false, false, false, false, false, false] (by kernel_rfl) rfl rfl trivial (fun hHeld => ?_); refine with_tabW spec_l01Cur_stash.tab2 spec_l01Cur_stash.bits2 (fun HT_ HW_ => ?_)
 generalize w60.drew = w61 at HI0 HK HB hHeld ⊢
 refine pure_ (i := 0) (N := some 14) (v := ?_) (a' := ?_) #[true, false, false, false, false, false, false, false, false, false, false, false, false] rfl rfl (any_of HT_.out (by kernel_rfl)) (fun _ _ _ h => h) (Or.inl ⟨by rfl, ?_⟩) ?_ ?_
 rotate_left
 ·
  intro w'
  go_simp
  with_reducible rfl
 rotate_left
 ·
  simp only [Act.put, List.setIfInBounds_toArray, List.set_cons_zero, List.set_cons_succ, i64_w, i32_w]
  rfl
 refine pure_ (i := 2) (N := some 16) (v := ?_) (a' := ?_) #[true, false, true, false, false, false, false, false, false, false, false, false, false] rfl rfl (any_of HT_.out (by kernel_rfl)) (fun _ _ _ h => h) (Or.inl ⟨by rfl, ?_⟩) ?_ ?_
 rotate_left
 ·
  intro w'
  go_simp
  with_reducible rfl
 rotate_left
 ·
  simp only [Act.put, List.setIfInBounds_toArray, List.set_cons_zero, List.set_cons_succ, i64_w, i32_w]
  rfl
 refine pure_ (i := 6) (N := some 20) (v := ?_) (a' := ?_) #[true, false, true, false, false, false, true, false, false, false, false, false, false] rfl rfl (any_of HT_.out (by kernel_rfl)) (fun _ _ _ h => h) (Or.inl ⟨by rfl, ?_⟩) ?_ ?_
 rotate_left
 ·
  intro w'
  go_simp
  with_reducible rfl
 rotate_left
 ·
  simp only [Act.put, List.setIfInBounds_toArray, List.set_cons_zero, List.set_cons_succ, i64_w, i32_w]
  rfl
 refine pure_ (i := 8) (N := some 22) (v := ?_) (a' := ?_) #[true, false, true, false, false, false, true, false, true, false, false, false, false] rfl rfl (any_of HT_.out (by kernel_rfl)) (fun _ _ _ h => h) (Or.inl ⟨by rfl, ?_⟩) ?_ ?_
 rotate_left
 ·
  intro w'
  go_simp
  with_reducible rfl
 rotate_left
 ·
  simp only [Act.put, List.setIfInBounds_toArray, List.set_cons_zero, List.set_cons_succ, i64_w, i32_w]
  rfl
 refine inv_at [1, 3, 4, 5, 7, 9, 10, 11, 12] (fun a0_ b a w' => ∃ (v234 : Value) (adz_v234 : Addr) (v242 : Value) (m4_ : Value) (m12_ : Value), a = putSel a0_ b [(1, 15, v234), (3, 17, .int .i64 t236), (4, 18, m4_), (5, 19, .int .i64 (rd y233 t236)), (7, 21, .int .i64 t240), (9, 23, .int .i64 ji7), (10, 24, .int .i64 ji8), (11, 25, v242), (12, 7, m12_)] ∧ (b 3 = false → IsS92 w0 w' g s0_0 t231 t232) ∧ (KeepBut w w' g none) ∧ (Below w0.heap.size w0 w') ∧ (b 1 = true → Kd.R (Kd.int .i64) 3 w' w.heap.size (fun _ => True) v234 y233) ∧ (b 1 = true → ∃ c_, (v234 : Value) = .slice (some adz_v234) y233.length c_) ∧ (b 3 = true → b 11 = false → IsS92 w0 w' g s0_0 t237 t238) ∧ (b 11 = true → Kd.S k26 26 w' w.heap.size (fun _ => True) v242 t241) ∧ (b 11 = true → IsS92 w0 w' g s0_0 t244 t245) ∧ (b 4 = true → (m4_ : Value) = .pointer (some (adz_v234.add (t236).toNat))) ∧ (b 12 = true → (m12_ : Value) = v242)) HT_.out HW_.out (by kernel_rfl) (by kernel_rfl) ?_ ?_ ?_
 ·
  exact ⟨.bool false, ⟨0, 0, none⟩, .bool false, .bool false, .bool false, by simp only [putSel, Bool.false_eq_true, if_false], fun _ => HI0.out, HK.out, HB.out, fun h_ => absurd h_ (by decide), fun h_ => absurd h_ (by decide), fun h_ => absurd h_ (by decide), fun h_ => absurd h_ (by decide), fun h_ => absurd h_ (by decide), fun h_ => absurd h_ (by decide), fun h_ => absurd h_ (by decide)⟩
 ·
  skip
  clear HB HI0 HK
  refine steps_cons ?_ ?_
  ·
   rintro b a w' ⟨v234, adz_v234, v242, m4_, m12_, ha, Q_HI0, Q_HK, Q_HB, Q_HO235, Q_HA_HO235, Q_HI0_e3, Q_HO243, Q_HI0_e11, Q_X4_, Q_X12_⟩ hb_ hon hoff
   refine ⟨_, rfl, fun K hK => ?_⟩
   replace ha := Aside0.mk ha
   have HK := Aside0.mk Q_HK
   have HB := Aside0.mk Q_HB
   refine Kd.R_lit_step (Kd.int .i64) _ 3 ?hg (N := 15) ?hd (xs := ([4, 14, 30] : List Int)) (inner := [.int .i64 4, .int .i64 14, .int .i64 30]) (ok := fun _ => True) (okp := fun _ => True) ?hr ?hp (fun _ hk => hk) trivial (Below.refl _ _) (Nat.le_refl _) (by simp) ?_; (case hd => rfl); (case hg => rfl); (case hr => (go_simp; done)); (case hp => exact (Reps.one (show Kd.M (Kd.int .i64) _ _ _ 4 [.int .i64 4] from rfl) (Reps.one (show Kd.M (Kd.int .i64) _ _ _ 14 [.int .i64 14] from rfl) (Reps.one (show Kd.M (Kd.int .i64) _ _ _ 30 [.int .i64 30] from rfl) (Reps.none _ _)))))
   intro v234 w62 ho63 hb hg_ hnew_
   clear hg_ hnew_
   (rw [← Ny233.out] at ho63)
   have n0_ := Aside0.mk (Kd.R_lower ho63 (keep_size (w := w) (g := g) (row := none) (by repeat ((with_reducible exact HK.out)))))
   have n2_ := Aside0.mk (KeepBut.trans (by repeat ((with_reducible exact HK.out))) (KeepBut.of_below hb g none) (.inl rfl))
   have n3_ := Aside0.mk (below_step (by repeat ((with_reducible exact HB.out))) hb)
   have z_HI0 := fun (h0_ : b 3 = false) => (show IsS92 w0 w62 g s0_0 t231 t232 from by exact (IsS92.below (by repeat ((with_reducible exact (Q_HI0 h0_)))) hb))
   have z_HI0_e3 := fun (h0_ : b 3 = true) (h1_ : b 11 = false) => (show IsS92 w0 w62 g s0_0 t237 t238 from by exact (IsS92.below (by repeat ((with_reducible exact (Q_HI0_e3 h0_ h1_)))) hb))
   clear HK
   clear HB
   have HO235 := n0_
   have HK := n2_
   have HB := n3_
   clear n0_ n2_ n3_
   clear hb ho63
   obtain ⟨Ao64, co64, eo64⟩ := Kd.R_slice HO235.out
   subst eo64
   obtain ⟨ado64, fo64, _⟩ := Kd.at_int (Kd.R_reads' HO235.out).2.2 0 (by decide) (by rw [Ny233.out]; simp)
   cases fo64
   refine hK.out _ _ ⟨.slice (some ado64) y233.length co64, ado64, v242, m4_, m12_, (by rw [ha.out]; exact putSel_upk 0 hb_ rfl rfl rfl), z_HI0, (by repeat ((with_reducible exact HK.out))), (by repeat ((with_reducible exact HB.out))), fun _ => (by (with_reducible repeat (first | apply Kd.R_alloc | apply Kd.R_drewN | apply Kd.R_drew)); exact HO235.out), fun _ => ⟨_, rfl⟩, z_HI0_e3, fun h0_ => absurd ((hoff 11 (by kernel_rfl)).symm.trans h0_) (by decide), fun h0_ => absurd ((hoff 11 (by kernel_rfl)).symm.trans h0_) (by decide), fun h0_ => absurd ((hoff 4 (by kernel_rfl)).symm.trans h0_) (by decide), fun h0_ => absurd ((hoff 12 (by kernel_rfl)).symm.trans h0_) (by decide)⟩
  refine steps_cons ?_ ?_
  ·
   rintro b a w' ⟨v234, adz_v234, v242, m4_, m12_, ha, Q_HI0, Q_HK, Q_HB, Q_HO235, Q_HA_HO235, Q_HI0_e3, Q_HO243, Q_HI0_e11, Q_X4_, Q_X12_⟩ hb_ hon hoff
   refine ⟨_, rfl, fun K hK => ?_⟩
   have e16 : a.tmps[16]? = some (.pointer (some ⟨g, 0, none⟩)) := by rw [ha]; exact (putSel_off rfl).trans rfl
   replace ha := Aside0.mk ha
   have HI0 := Aside0.mk (Q_HI0 hb_)
   have HK := Aside0.mk Q_HK
   have HB := Aside0.mk Q_HB
   refine goes_ Try.func82 (by kernel_rfl) rfl #[.pointer (some ⟨g, 0, none⟩), .int .i64 3] (by rfl) rfl rfl (by (simp only [List.map_toArray, List.map_cons, List.map_nil, Act.eval, Array.getD_eq_getD_getElem?, Option.getD_some, e16]; done)) ?_
   with_reducible refine (spec_l01Cur_pick.calls g s0_0 t231 t232 3 t236 t237 t238 w0 _ ?side1 ?side2 A3.out).mono ?_
   (case side1 => repeat ((with_reducible exact HI0.out)))
   (case side2 => repeat ((with_reducible exact HB.out)))
   rintro e w62 ⟨rfl, hi, hb, hk⟩
   refine ⟨_, rfl, ?_⟩
   have n0_ := Aside0.mk (KeepBut.trans (by repeat ((with_reducible exact HK.out))) hk (.inl rfl))
   have n1_ := Aside0.mk (hb)
   have n2_ := Aside0.mk (hi)
   have z_HO235 := fun (h0_ : b 1 = true) => (show Kd.R (Kd.int .i64) 3 w62 w.heap.size (fun _ => True) v234 y233 from by exact (Kd.R_mono (Kd.R_keep (IsS92.apart (show IsS92 w0 _ g s0_0 t231 t232 from by repeat ((with_reducible exact HI0.out))) (by (with_reducible repeat (first | apply Kd.R_alloc | apply Kd.R_drewN | apply Kd.R_drew)); exact (Q_HO235 h0_)) (by decide)) hk (fun _ h => h.2)) (fun _ h => h.1)))
   clear HK
   clear HB
   clear HI0
   have HK := n0_
   have HB := n1_
   have HI0 := n2_
   clear n0_ n1_ n2_
   (try clear hb)
   (try clear hb2)
   (try clear hk)
   (try clear hi)
   refine hK.out _ _ ⟨v234, adz_v234, v242, m4_, m12_, (by rw [ha.out]; exact putSel_upk 1 hb_ rfl rfl rfl), fun h0_ => absurd ((up_self b 3).symm.trans h0_) (by decide), (by repeat ((with_reducible exact HK.out))), (by repeat ((with_reducible exact HB.out))), z_HO235, Q_HA_HO235, fun _ _ => (by repeat ((with_reducible exact HI0.out))), fun h0_ => absurd ((hoff 11 (by kernel_rfl)).symm.trans h0_) (by decide), fun h0_ => absurd ((hoff 11 (by kernel_rfl)).symm.trans h0_) (by decide), fun h0_ => absurd ((hoff 4 (by kernel_rfl)).symm.trans h0_) (by decide), fun h0_ => absurd ((hoff 12 (by kernel_rfl)).symm.trans h0_) (by decide)⟩
  refine steps_cons ?_ ?_
  ·
   rintro b a w' ⟨v234, adz_v234, v242, m4_, m12_, ha, Q_HI0, Q_HK, Q_HB, Q_HO235, Q_HA_HO235, Q_HI0_e3, Q_HO243, Q_HI0_e11, Q_X4_, Q_X12_⟩ hb_ hon hoff
   refine ⟨_, rfl, fun K hK => ?_⟩
   have e15 : a.tmps[15]? = some (v234) := by rw [ha]; exact putSel_on (e := (1, 15, v234)) 0 rfl rfl (hon 1 (by kernel_rfl)) rfl
   have e17 : a.tmps[17]? = some (.int .i64 t236) := by rw [ha]; exact putSel_on (e := (3, 17, .int .i64 t236)) 1 rfl rfl (hon 3 (by kernel_rfl)) rfl
   replace ha := Aside0.mk ha
   have HK := Aside0.mk Q_HK
   have HB := Aside0.mk Q_HB
   have HO235 := Aside0.mk (Q_HO235 (hon 1 (by kernel_rfl)))
   have HA_HO235 := Aside0.mk (Q_HA_HO235 (hon 1 (by kernel_rfl)))
   have HI0 := Aside0.mk (Q_HI0_e3 (hon 3 (by kernel_rfl)) (hoff 11 (by kernel_rfl)))
   obtain ⟨c_, hv_⟩ := HA_HO235.out
   rw [hv_] at e15
   refine value_ (w1 := w') (v := .pointer (some (adz_v234.add (t236).toNat))) (by rfl) rfl ?_ ?_
   ·
    go_simp
    (try simp only [i64_w])
    try rfl
   refine hK.out _ _ ⟨v234, adz_v234, v242, (.pointer (some (adz_v234.add (t236).toNat))), m12_, (by rw [ha.out]; exact putSel_upk 2 hb_ rfl rfl rfl), fun h0_ => absurd ((hon 3 (by kernel_rfl)).symm.trans h0_) (by decide), Q_HK, Q_HB, Q_HO235, Q_HA_HO235, Q_HI0_e3, fun h0_ => absurd ((hoff 11 (by kernel_rfl)).symm.trans h0_) (by decide), fun h0_ => absurd ((hoff 11 (by kernel_rfl)).symm.trans h0_) (by decide), fun _ => rfl, fun h0_ => absurd ((hoff 12 (by kernel_rfl)).symm.trans h0_) (by decide)⟩
  refine steps_cons ?_ ?_
  ·
   rintro b a w' ⟨v234, adz_v234, v242, m4_, m12_, ha, Q_HI0, Q_HK, Q_HB, Q_HO235, Q_HA_HO235, Q_HI0_e3, Q_HO243, Q_HI0_e11, Q_X4_, Q_X12_⟩ hb_ hon hoff
   refine ⟨_, rfl, fun K hK => ?_⟩
   have e18 : a.tmps[18]? = some (m4_) := by rw [ha]; exact putSel_on (e := (4, 18, m4_)) 2 rfl rfl (hon 4 (by kernel_rfl)) rfl
   rw [Q_X4_ (hon 4 (by kernel_rfl))] at e18
   replace ha := Aside0.mk ha
   have HK := Aside0.mk Q_HK
   have HB := Aside0.mk Q_HB
   have HO235 := Aside0.mk (Q_HO235 (hon 1 (by kernel_rfl)))
   have HA_HO235 := Aside0.mk (Q_HA_HO235 (hon 1 (by kernel_rfl)))
   have HI0 := Aside0.mk (Q_HI0_e3 (hon 3 (by kernel_rfl)) (hoff 11 (by kernel_rfl)))
   obtain ⟨c_, hv_⟩ := HA_HO235.out
   have hF_ := HO235.out
   rw [hv_] at hF_
   obtain ⟨ad_, ea_, hx_⟩ := Kd.at_int (Kd.R_reads' hF_).2.2 t236 (of_eq_true pi239) (of_eq_true qi239)
   cases ea_
   refine value_ (w1 := w') (v := .int .i64 (rd y233 t236)) (by rfl) rfl ?_ ?_
   ·
    go_simp
    (try simp only [i64_w])
    try rfl
   refine hK.out _ _ ⟨v234, adz_v234, v242, m4_, m12_, (by rw [ha.out]; exact putSel_upk 3 hb_ rfl rfl rfl), fun h0_ => absurd ((hon 3 (by kernel_rfl)).symm.trans h0_) (by decide), Q_HK, Q_HB, Q_HO235, Q_HA_HO235, Q_HI0_e3, fun h0_ => absurd ((hoff 11 (by kernel_rfl)).symm.trans h0_) (by decide), fun h0_ => absurd ((hoff 11 (by kernel_rfl)).symm.trans h0_) (by decide), Q_X4_, fun h0_ => absurd ((hoff 12 (by kernel_rfl)).symm.trans h0_) (by decide)⟩
  refine steps_cons ?_ ?_
  ·
   rintro b a w' ⟨v234, adz_v234, v242, m4_, m12_, ha, Q_HI0, Q_HK, Q_HB, Q_HO235, Q_HA_HO235, Q_HI0_e3, Q_HO243, Q_HI0_e11, Q_X4_, Q_X12_⟩ hb_ hon hoff
   refine ⟨_, rfl, fun K hK => ?_⟩
   have e20 : a.tmps[20]? = some (.int .i64 t229) := by rw [ha]; exact (putSel_off rfl).trans rfl
   replace ha := Aside0.mk ha
   have HK := Aside0.mk Q_HK
   have HB := Aside0.mk Q_HB
   have HI0 := Aside0.mk (Q_HI0_e3 (hon 3 (by kernel_rfl)) (hoff 11 (by kernel_rfl)))
   refine goes_ Try.func57 (by kernel_rfl) rfl #[.int .i64 t229] (by rfl) rfl rfl (by (simp only [List.map_toArray, List.map_cons, List.map_nil, Act.eval, Array.getD_eq_getD_getElem?, Option.getD_some, e20]; done)) ?_
   with_reducible refine (spec_l12Clip.calls t229 t240 _ A6.out).mono ?_
   rintro e w64 ⟨rfl, hb⟩
   refine ⟨_, rfl, ?_⟩
   have n0_ := Aside0.mk (IsS92.below (by repeat ((with_reducible exact HI0.out))) hb)
   have n1_ := Aside0.mk (KeepBut.trans (by repeat ((with_reducible exact HK.out))) (KeepBut.of_below hb g none) (.inl rfl))
   have n2_ := Aside0.mk (below_step (by repeat ((with_reducible exact HB.out))) hb)
   have z_HO235 := fun (h0_ : b 1 = true) => (show Kd.R (Kd.int .i64) 3 w64 w.heap.size (fun _ => True) v234 y233 from by exact (Kd.R_below (by (with_reducible repeat (first | apply Kd.R_alloc | apply Kd.R_drewN | apply Kd.R_drew)); exact (Q_HO235 h0_)) hb))
   clear HI0
   clear HK
   clear HB
   have HI0 := n0_
   have HK := n1_
   have HB := n2_
   clear n0_ n1_ n2_
   (try clear hb)
   (try clear hb2)
   (try clear hk)
   (try clear hi)
   refine hK.out _ _ ⟨v234, adz_v234, v242, m4_, m12_, (by rw [ha.out]; exact putSel_upk 4 hb_ rfl rfl rfl), fun h0_ => absurd ((hon 3 (by kernel_rfl)).symm.trans h0_) (by decide), (by repeat ((with_reducible exact HK.out))), (by repeat ((with_reducible exact HB.out))), z_HO235, Q_HA_HO235, fun _ _ => (by repeat ((with_reducible exact HI0.out))), fun h0_ => absurd ((hoff 11 (by kernel_rfl)).symm.trans h0_) (by decide), fun h0_ => absurd ((hoff 11 (by kernel_rfl)).symm.trans h0_) (by decide), Q_X4_, fun h0_ => absurd ((hoff 12 (by kernel_rfl)).symm.trans h0_) (by decide)⟩
  refine steps_cons ?_ ?_
  ·
   rintro b a w' ⟨v234, adz_v234, v242, m4_, m12_, ha, Q_HI0, Q_HK, Q_HB, Q_HO235, Q_HA_HO235, Q_HI0_e3, Q_HO243, Q_HI0_e11, Q_X4_, Q_X12_⟩ hb_ hon hoff
   refine ⟨_, rfl, fun K hK => ?_⟩
   have e22 : a.tmps[22]? = some (.int .i64 t230) := by rw [ha]; exact (putSel_off rfl).trans rfl
   replace ha := Aside0.mk ha
   have HK := Aside0.mk Q_HK
   have HB := Aside0.mk Q_HB
   refine value_ (w1 := w') (v := .int .i64 ji7) (by rfl) rfl ?_ ?_
   ·
    go_simp
    (try simp only [i64_w])
    try rfl
   refine hK.out _ _ ⟨v234, adz_v234, v242, m4_, m12_, (by rw [ha.out]; exact putSel_upk 5 hb_ rfl rfl rfl), Q_HI0, Q_HK, Q_HB, Q_HO235, Q_HA_HO235, Q_HI0_e3, fun h0_ => absurd ((hoff 11 (by kernel_rfl)).symm.trans h0_) (by decide), fun h0_ => absurd ((hoff 11 (by kernel_rfl)).symm.trans h0_) (by decide), Q_X4_, fun h0_ => absurd ((hoff 12 (by kernel_rfl)).symm.trans h0_) (by decide)⟩
  refine steps_cons ?_ ?_
  ·
   rintro b a w' ⟨v234, adz_v234, v242, m4_, m12_, ha, Q_HI0, Q_HK, Q_HB, Q_HO235, Q_HA_HO235, Q_HI0_e3, Q_HO243, Q_HI0_e11, Q_X4_, Q_X12_⟩ hb_ hon hoff
   refine ⟨_, rfl, fun K hK => ?_⟩
   have e23 : a.tmps[23]? = some (.int .i64 ji7) := by rw [ha]; exact putSel_on (e := (9, 23, .int .i64 ji7)) 5 rfl rfl (hon 9 (by kernel_rfl)) rfl
   replace ha := Aside0.mk ha
   have HK := Aside0.mk Q_HK
   have HB := Aside0.mk Q_HB
   refine value_ (w1 := w') (v := .int .i64 ji8) (by rfl) rfl ?_ ?_
   ·
    go_simp
    (try simp only [i64_w])
    try rfl
   refine hK.out _ _ ⟨v234, adz_v234, v242, m4_, m12_, (by rw [ha.out]; exact putSel_upk 6 hb_ rfl rfl rfl), Q_HI0, Q_HK, Q_HB, Q_HO235, Q_HA_HO235, Q_HI0_e3, fun h0_ => absurd ((hoff 11 (by kernel_rfl)).symm.trans h0_) (by decide), fun h0_ => absurd ((hoff 11 (by kernel_rfl)).symm.trans h0_) (by decide), Q_X4_, fun h0_ => absurd ((hoff 12 (by kernel_rfl)).symm.trans h0_) (by decide)⟩
  refine steps_cons ?_ ?_
  ·
   rintro b a w' ⟨v234, adz_v234, v242, m4_, m12_, ha, Q_HI0, Q_HK, Q_HB, Q_HO235, Q_HA_HO235, Q_HI0_e3, Q_HO243, Q_HI0_e11, Q_X4_, Q_X12_⟩ hb_ hon hoff
   refine ⟨_, rfl, fun K hK => ?_⟩
   have e14 : a.tmps[14]? = some (.pointer (some ⟨g, 0, none⟩)) := by rw [ha]; exact (putSel_off rfl).trans rfl
   have e19 : a.tmps[19]? = some (.int .i64 (rd y233 t236)) := by rw [ha]; exact putSel_on (e := (5, 19, .int .i64 (rd y233 t236))) 3 rfl rfl (hon 5 (by kernel_rfl)) rfl
   have e21 : a.tmps[21]? = some (.int .i64 t240) := by rw [ha]; exact putSel_on (e := (7, 21, .int .i64 t240)) 4 rfl rfl (hon 7 (by kernel_rfl)) rfl
   have e24 : a.tmps[24]? = some (.int .i64 ji8) := by rw [ha]; exact putSel_on (e := (10, 24, .int .i64 ji8)) 6 rfl rfl (hon 10 (by kernel_rfl)) rfl
   replace ha := Aside0.mk ha
   have HK := Aside0.mk Q_HK
   have HB := Aside0.mk Q_HB
   have HO235 := Aside0.mk (Q_HO235 (hon 1 (by kernel_rfl)))
   have HA_HO235 := Aside0.mk (Q_HA_HO235 (hon 1 (by kernel_rfl)))
   have HI0 := Aside0.mk (Q_HI0_e3 (hon 3 (by kernel_rfl)) hb_)
   obtain ⟨co68, eo68⟩ := HA_HO235.out
   clear HA_HO235
   subst eo68
   refine goes_ Try.func56 (by kernel_rfl) rfl #[.pointer (some ⟨g, 0, none⟩), .int .i64 (rd y233 t236), .int .i64 t240, .int .i64 ji8] (by rfl) rfl rfl (by (simp only [List.map_toArray, List.map_cons, List.map_nil, Act.eval, Array.getD_eq_getD_getElem?, Option.getD_some, e14, e19, e21, e24]; done)) ?_
   with_reducible refine (spec_l01Cur_blocks.calls k g s0_0 t237 t238 (rd y233 t236) t240 ji8 t241 t244 t245 w0 _ ?side1 ?side2 A9.out).mono ?_
   (case side1 => repeat ((with_reducible exact HI0.out)))
   (case side2 => repeat ((with_reducible exact HB.out)))
   rintro e w69 ⟨v242, rfl, ho0, hi, hb, hk⟩
   refine ⟨_, rfl, ?_⟩
   have HO243 := Aside0.mk (Kd.S_lower ho0 (keep_size (w := w) (g := g) (row := none) (by repeat ((with_reducible exact HK.out)))))
   replace HO235 := Aside0.mk (Kd.R_mono (Kd.R_keep (IsS92.apart (show IsS92 w0 _ g s0_0 t237 t238 from by repeat ((with_reducible exact HI0.out))) (by (with_reducible repeat (first | apply Kd.R_alloc | apply Kd.R_drewN | apply Kd.R_drew)); exact HO235.out) (by decide)) hk (fun _ h => h.2)) (fun _ h => h.1))
   replace HK := Aside0.mk (KeepBut.trans (by repeat ((with_reducible exact HK.out))) hk (.inl rfl))
   replace HB := Aside0.mk (hb)
   replace HI0 := Aside0.mk (hi)
   (try clear hb)
   (try clear hb2)
   (try clear hk)
   (try clear hi)
   (try clear ho0)
   refine hK.out _ _ ⟨.slice (some adz_v234) y233.length co68, adz_v234, v242, m4_, m12_, (by rw [ha.out]; exact putSel_upk 7 hb_ rfl rfl rfl), fun h0_ => absurd ((hon 3 (by kernel_rfl)).symm.trans h0_) (by decide), (by repeat ((with_reducible exact HK.out))), (by repeat ((with_reducible exact HB.out))), fun _ => (by (with_reducible repeat (first | apply Kd.R_alloc | apply Kd.R_drewN | apply Kd.R_drew)); exact HO235.out), fun _ => ⟨_, rfl⟩, fun _ h1_ => absurd ((up_self b 11).symm.trans h1_) (by decide), fun _ => (by (with_reducible repeat (first | apply Kd.S_alloc | apply Kd.S_drewN | apply Kd.S_drew)); exact HO243.out), fun _ => (by repeat ((with_reducible exact HI0.out))), Q_X4_, fun h0_ => absurd ((hoff 12 (by kernel_rfl)).symm.trans h0_) (by decide)⟩
  refine steps_cons ?_ ?_
  ·
   rintro b a w' ⟨v234, adz_v234, v242, m4_, m12_, ha, Q_HI0, Q_HK, Q_HB, Q_HO235, Q_HA_HO235, Q_HI0_e3, Q_HO243, Q_HI0_e11, Q_X4_, Q_X12_⟩ hb_ hon hoff
   refine ⟨_, rfl, fun K hK => ?_⟩
   have e25 : a.tmps[25]? = some (v242) := by rw [ha]; exact putSel_on (e := (11, 25, v242)) 7 rfl rfl (hon 11 (by kernel_rfl)) rfl
   replace ha := Aside0.mk ha
   have HK := Aside0.mk Q_HK
   have HB := Aside0.mk Q_HB
   have HO235 := Aside0.mk (Q_HO235 (hon 1 (by kernel_rfl)))
   have HA_HO235 := Aside0.mk (Q_HA_HO235 (hon 1 (by kernel_rfl)))
   have HO243 := Aside0.mk (Q_HO243 (hon 11 (by kernel_rfl)))
   have HI0 := Aside0.mk (Q_HI0_e11 (hon 11 (by kernel_rfl)))
   refine value_ (w1 := w') (v := v242) (by rfl) rfl ?_ ?_
   ·
    go_simp
    (try simp only [i64_w])
    try rfl
   refine hK.out _ _ ⟨v234, adz_v234, v242, m4_, (v242), (by rw [ha.out]; exact putSel_upk 8 hb_ rfl rfl rfl), fun h0_ => absurd ((hon 3 (by kernel_rfl)).symm.trans h0_) (by decide), Q_HK, Q_HB, Q_HO235, Q_HA_HO235, fun _ h1_ => absurd ((hon 11 (by kernel_rfl)).symm.trans h1_) (by decide), Q_HO243, Q_HI0_e11, Q_X4_, fun _ => rfl⟩
  exact steps_nil
 rintro b a w68 hall ⟨v234, adz_v234, v242, m4_, m12_, ha, Q_HI0, Q_HK, Q_HB, Q_HO235, Q_HA_HO235, Q_HI0_e3, Q_HO243, Q_HI0_e11, Q_X4_, Q_X12_⟩
 clear HB HI0 HK
 have hb1_ := hall 1 (by kernel_rfl)
 have hb3_ := hall 3 (by kernel_rfl)
 have hb4_ := hall 4 (by kernel_rfl)
 have hb5_ := hall 5 (by kernel_rfl)
 have hb7_ := hall 7 (by kernel_rfl)
 have hb9_ := hall 9 (by kernel_rfl)
 have hb10_ := hall 10 (by kernel_rfl)
 have hb11_ := hall 11 (by kernel_rfl)
 have hb12_ := hall 12 (by kernel_rfl)
 subst ha
 obtain rfl := Q_X4_ hb4_
 obtain rfl := Q_X12_ hb12_
 simp only [putSel, hb1_, hb3_, hb4_, hb5_, hb7_, hb9_, hb10_, hb11_, hb12_, if_true, Act.put, List.setIfInBounds_toArray, List.set_cons_zero, List.set_cons_succ]
 clear Q_HI0
 have HK := Aside0.mk Q_HK
 clear Q_HK
 have HB := Aside0.mk Q_HB
 clear Q_HB
 have HO235 := Aside0.mk (Q_HO235 hb1_)
 clear Q_HO235
 have HA_HO235 := Aside0.mk (Q_HA_HO235 hb1_)
 clear Q_HA_HO235
 clear Q_HI0_e3
 have HO243 := Aside0.mk (Q_HO243 hb11_)
 clear Q_HO243
 have HI0 := Aside0.mk (Q_HI0_e11 hb11_)
 clear Q_HI0_e11
 clear hall hb1_ hb3_ hb4_ hb5_ hb7_ hb9_ hb10_ hb11_ hb12_
 obtain ⟨co69, eo69⟩ := HA_HO235.out
 clear HA_HO235
 subst eo69
 try go_wp2_with (first | ((with_reducible refine gate_callee (f := 80) rfl ?_); refine goesL_ (some 27) rfl rfl Try.func80 (by kernel_rfl) rfl #[.pointer (some ⟨g, 0, none⟩), .int .i64 5] rfl (by (try simp only [List.map_toArray, List.map_cons, List.map_nil]); rfl) ?_; (with_reducible refine (spec_l01Cur_once.calls g s0_0 t244 t245 5 false t247 t248 w0 _ ?side1 ?side2 A10.out).mono ?_); (case side1 => repeat ((with_reducible exact HI0.out))); (case side2 => repeat ((with_reducible exact HB.out))); rintro e w70 ⟨rfl, hi, hb, hk⟩; refine ⟨_, rfl, ?_⟩; have n0_ := Aside0.mk (Kd.R_mono (Kd.R_keep (IsS92.apart (show IsS92 w0 _ g s0_0 t244 t245 from by repeat ((with_reducible exact HI0.out))) (by (with_reducible repeat (first | apply Kd.R_alloc | apply Kd.R_drewN | apply Kd.R_drew)); exact HO235.out) (by decide)) hk (fun _ h => h.2)) (fun _ h => h.1)); have n1_ := Aside0.mk (Kd.S_mono (Kd.S_keep (IsS92.apartS (show IsS92 w0 _ g s0_0 t244 t245 from by repeat ((with_reducible exact HI0.out))) (by (with_reducible repeat (first | apply Kd.S_alloc | apply Kd.S_drewN | apply Kd.S_drew)); exact HO243.out) (by decide)) hk (fun _ h => h.2)) (fun _ h => h.1)); have n2_ := Aside0.mk (KeepBut.trans (by repeat ((with_reducible exact HK.out))) hk (.inl rfl)); have n3_ := Aside0.mk (hb); have n4_ := Aside0.mk (hi); clear HO235; clear HO243; clear HK; clear HB; clear HI0; have HO235 := n0_; have HO243 := n1_; have HK := n2_; have HB := n3_; have HI0 := n4_; clear n0_ n1_ n2_ n3_ n4_; (try clear hb); (try clear hb2); (try clear hk); (try clear hi)) | ((with_reducible refine gate_callee (f := 80) rfl ?_); refine goesL_ (some 32) rfl rfl Try.func80 (by kernel_rfl) rfl #[.pointer (some ⟨g, 0, none⟩), .int .i64 20] rfl (by (try simp only [List.map_toArray, List.map_cons, List.map_nil]); rfl) ?_; (with_reducible refine (spec_l01Cur_once.calls g s0_0 t247 t248 20 true t270 t271 w0 _ ?side1 ?side2 A58.out).mono ?_); (case side1 => repeat ((with_reducible exact HI0.out))); (case side2 => repeat ((with_reducible exact HB.out))); rintro e w71 ⟨rfl, hi, hb, hk⟩; refine ⟨_, rfl, ?_⟩; have n0_ := Aside0.mk (Kd.R_mono (Kd.R_keep (IsS92.apart (show IsS92 w0 _ g s0_0 t247 t248 from by repeat ((with_reducible exact HI0.out))) (by (with_reducible repeat (first | apply Kd.R_alloc | apply Kd.R_drewN | apply Kd.R_drew)); exact HO235.out) (by decide)) hk (fun _ h => h.2)) (fun _ h => h.1)); have n1_ := Aside0.mk (Kd.S_mono (Kd.S_keep (IsS92.apartS (show IsS92 w0 _ g s0_0 t247 t248 from by repeat ((with_reducible exact HI0.out))) (by (with_reducible repeat (first | apply Kd.S_alloc | apply Kd.S_drewN | apply Kd.S_drew)); exact HO243.out) (by decide)) hk (fun _ h => h.2)) (fun _ h => h.1)); have n2_ := Aside0.mk (KeepBut.trans (by repeat ((with_reducible exact HK.out))) hk (.inl rfl)); have n3_ := Aside0.mk (hb); have n4_ := Aside0.mk (hi); clear HO235; clear HO243; clear HK; clear HB; clear HI0; have HO235 := n0_; have HO243 := n1_; have HK := n2_; have HB := n3_; have HI0 := n4_; clear n0_ n1_ n2_ n3_ n4_; (try clear hb); (try clear hb2); (try clear hk); (try clear hi)) | ((with_reducible refine gate_dst (N := 33) rfl ?_); refine Kd.S_lit k26 _ 26 ?hg (N := 33) ?hd (xs := ([] : List (S26))) (inner := []) (ok := fun _ => True) (okp := fun _ => True) ?hr ?hp (fun _ hk => hk) trivial (Below.refl _ _) (Nat.le_refl _) (by simp) ?_; (case hd => rfl); (case hg => rfl); (case hr => (go_simp; done)); (case hp => exact (Reps.none _ _)); intro v273 w72 ho73 hb hg_ hnew_; clear hg_ hnew_; (rw [← Ny272.out] at ho73); have n0_ := Aside0.mk (Kd.R_below (by (with_reducible repeat (first | apply Kd.R_alloc | apply Kd.R_drewN | apply Kd.R_drew)); exact HO235.out) hb); have n1_ := Aside0.mk (Kd.S_elder' (by (with_reducible repeat (first | apply Kd.S_alloc | apply Kd.S_drewN | apply Kd.S_drew)); exact HO243.out) (Kd.S_base ho73) hb); have n2_ := Aside0.mk (Kd.S_lower (Kd.S_new' ho73 (Kd.S_lt (by (with_reducible repeat (first | apply Kd.S_alloc | apply Kd.S_drewN | apply Kd.S_drew)); exact HO243.out))) (keep_size (w := w) (g := g) (row := none) (by repeat ((with_reducible exact HK.out))))); have n3_ := Aside0.mk (IsS92.below (by repeat ((with_reducible exact HI0.out))) hb); have n4_ := Aside0.mk (KeepBut.trans (by repeat ((with_reducible exact HK.out))) (KeepBut.of_below hb g none) (.inl rfl)); have n5_ := Aside0.mk (below_step (by repeat ((with_reducible exact HB.out))) hb); clear HO235; clear HO243; clear HI0; clear HK; clear HB; have HO235 := n0_; have HO243 := n1_; have HO274 := n2_; have HI0 := n3_; have HK := n4_; have HB := n5_; clear n0_ n1_ n2_ n3_ n4_ n5_; clear hb ho73))
 go_loopg [7, 8] k (fun kq v7 v8 w' => ∃ (x7_1 : List (S26)) (x8_1 : Int) (x1001_1 : Int) (x1002_1 : Int), v8 = .int .i64 x8_1 ∧ Aside0 (spec_l01Cur_stash.l0 kq t229 t230 x7_1 x8_1 s0_0 x1001_1 x1002_1 = some (r1, r2, r3, r4, r5)) ∧ Aside0 (kq ≤ k) ∧ Aside0 (Kd.S k26 26 w' w.heap.size (fun _ => True) v7 x7_1) ∧ Aside0 (IsS92 w0 w' g s0_0 x1001_1 x1002_1) ∧ Aside0 (KeepBut w w' g none) ∧ Aside0 (Below w0.heap.size w0 w'))
 case atStart => exact ⟨(y272), (0), (t270), (t271), (by rfl), H', ⟨Nat.le_refl _⟩, ⟨by (with_reducible repeat (first | apply Kd.S_alloc | apply Kd.S_drewN | apply Kd.S_drew)); exact Kd.S_mono HO274.out (fun _ hk => trivial)⟩, ⟨by repeat ((with_reducible exact HI0.out))⟩, ⟨by repeat ((with_reducible exact HK.out))⟩, ⟨by repeat ((with_reducible exact HB.out))⟩⟩
 case round =>
  clear H'
  try clear c1
  try clear p1
  try clear p2
  try clear qi2
  try clear c5
  try clear c6
  try clear c8
  try clear p10
  try clear c11
  try clear qi23
  try clear c54
  try clear c55
  try clear c56
  try clear c57
  try clear c59
  try clear c68
  obtain ⟨x7_1, x8_1, x1001_1, x1002_1, rfl, HA, HK1, HO_7, HI0, HK, HB⟩ := hrel
  cases gk with
  | zero => exact absurd HA.out (by simp [spec_l01Cur_stash.l0])
  | succ k1 =>
   have H := HA.out
   clear HA
   simp only [spec_l01Cur_stash.l0] at H
   replace H := Option.bind_eq_some_iff.mp H
   obtain ⟨⟨t260, t261, t262⟩, A740, H⟩ := H
   replace H : (if x8_1 < (wrap64 (128 + t260)) then (if 0 ≤ (mn 5 (mx 1 t230)) then (if (mn 5 (mx 1 t230) : Int).toNat ≤ 281474976710656 then (if x7_1.length < 3518437208883 then (spec_l01Cur_stash.l0 k1 t229 t230 (x7_1 ++ [(⟨x8_1, 0, (List.replicate (mn 5 (mx 1 t230) : Int).toNat 0)⟩ : S26)]) (wrap64 (x8_1 + 1)) s0_0 t261 t262) else (none)) else (none)) else (none)) else (some (x7_1, t229, t230, t261, t262))) = some (r1, r2, r3, r4, r5) := H
   have A74 := Aside0.mk A740
   clear A740
   by_cases c75 : x8_1 < (wrap64 (128 + t260))
   rotate_left
   ·
    rw [if_neg c75] at H
    have c75b0 : decide (x8_1 < (wrap64 (128 + t260))) = false := decide_eq_false c75
    clear c75
    simp only [Option.some.injEq, Prod.mk.injEq] at H
    obtain ⟨rfl, rfl, rfl, rfl, rfl⟩ := H
    go_wp2_with (((with_reducible refine gate_callee (f := 82) rfl ?_); refine goesL_ (some 36) rfl rfl Try.func82 (by kernel_rfl) rfl #[.pointer (some ⟨g, 0, none⟩), .int .i64 2] rfl (by (try simp only [List.map_toArray, List.map_cons, List.map_nil]); rfl) ?_; (with_reducible refine (spec_l01Cur_pick.calls g s0_0 x1001_1 x1002_1 2 t260 t261 t262 w0 _ ?side1 ?side2 A74.out).mono ?_); (case side1 => repeat ((with_reducible exact HI0.out))); (case side2 => repeat ((with_reducible exact HB.out))); rintro e w86 ⟨rfl, hi, hb, hk⟩; refine ⟨_, rfl, ?_⟩; have n0_ := Aside0.mk (Kd.S_mono (Kd.S_keep (IsS92.apartS (show IsS92 w0 _ g s0_0 x1001_1 x1002_1 from by repeat ((with_reducible exact HI0.out))) (by (with_reducible repeat (first | apply Kd.S_alloc | apply Kd.S_drewN | apply Kd.S_drew)); exact HO_7.out) (by decide)) hk (fun _ h => h.2)) (fun _ h => h.1)); have n1_ := Aside0.mk (KeepBut.trans (by repeat ((with_reducible exact HK.out))) hk (.inl rfl)); have n2_ := Aside0.mk (hb); have n3_ := Aside0.mk (hi); clear HO_7; clear HK; clear HB; clear HI0; have HO_7 := n0_; have HK := n1_; have HB := n2_; have HI0 := n3_; clear n0_ n1_ n2_ n3_; (try clear hb); (try clear hb2); (try clear hk); (try clear hi)))
    go_ret3
    exact ⟨_, by rfl, by (with_reducible repeat (first | apply Kd.S_alloc | apply Kd.S_drewN | apply Kd.S_drew)); exact HO_7.out, by repeat ((with_reducible exact HI0.out)), by repeat ((with_reducible exact HB.out)), by repeat ((with_reducible exact HK.out))⟩
   rw [if_pos c75] at H
   have c75b0 : decide (x8_1 < (wrap64 (128 + t260))) = true := decide_eq_true c75
   clear c75
   obtain ⟨ji76, hji76⟩ : ∃ j_ : Int, (mx 1 t230) = j_ := ⟨_, rfl⟩
   obtain rfl : ji76 = ji7 := hji76.symm.trans hji7
   replace H : (if 0 ≤ (mn 5 (ji76)) then (if (mn 5 (ji76) : Int).toNat ≤ 281474976710656 then (if x7_1.length < 3518437208883 then (spec_l01Cur_stash.l0 k1 t229 t230 (x7_1 ++ [(⟨x8_1, 0, (List.replicate (mn 5 (ji76) : Int).toNat 0)⟩ : S26)]) (wrap64 (x8_1 + 1)) s0_0 t261 t262) else (none)) else (none)) else (none)) = some (r1, r2, r3, r4, r5) := by (rw [hji76] at H; exact H)
   (try rw [hji76] at A74)
   (try (have hji76l : 1 ≤ ji76 := by (rw [← hji76]; unfold mx; (repeat' split) <;> omega)))
   (try (have hji76m : 0 ≤ ji76 := by omega))
   have hji76_ : (if 1 < t230 then t230 else 1) = ji76 := hji76
   obtain ⟨ji77, hji77⟩ : ∃ j_ : Int, (mn 5 (ji76)) = j_ := ⟨_, rfl⟩
   obtain rfl : ji77 = ji8 := hji77.symm.trans hji8
   replace H : (if 0 ≤ (ji77) then (if (ji77 : Int).toNat ≤ 281474976710656 then (if x7_1.length < 3518437208883 then (spec_l01Cur_stash.l0 k1 t229 t230 (x7_1 ++ [(⟨x8_1, 0, (List.replicate (ji77 : Int).toNat 0)⟩ : S26)]) (wrap64 (x8_1 + 1)) s0_0 t261 t262) else (none)) else (none)) else (none)) = some (r1, r2, r3, r4, r5) := by (rw [hji77] at H; exact H)
   (try rw [hji77] at A74)
   have hji77_ : (if (ji76) < 5 then (ji76) else 5) = ji77 := hji77
   by_cases c78 : 0 ≤ (ji77)
   rotate_left
   ·
    rw [if_neg c78] at H
    exact absurd H (by simp)
   rw [if_pos c78] at H
   have c78b0 := eq_true c78
   have c78b1 : decide (0 ≤ (ji77)) = true := decide_eq_true c78
   clear c78
   by_cases c79 : (ji77 : Int).toNat ≤ 281474976710656
   rotate_left
   ·
    rw [if_neg c79] at H
    exact absurd H (by simp)
   rw [if_pos c79] at H
   have c79b0 := eq_true c79
   have c79b1 : decide ((ji77 : Int).toNat ≤ 281474976710656) = true := decide_eq_true c79
   clear c79
   obtain ⟨y263, hy263⟩ : ∃ y_ : List Int, y_ = (List.replicate (ji77 : Int).toNat 0) := ⟨_, rfl⟩
   replace H : (if x7_1.length < 3518437208883 then (spec_l01Cur_stash.l0 k1 t229 t230 (x7_1 ++ [(⟨x8_1, 0, y263⟩ : S26)]) (wrap64 (x8_1 + 1)) s0_0 t261 t262) else (none)) = some (r1, r2, r3, r4, r5) := by (rw [hy263]; with_reducible exact H)
   have Ny263 := Aside0.mk hy263
   clear hy263
   by_cases c80 : x7_1.length < 3518437208883
   rotate_left
   ·
    rw [if_neg c80] at H
    exact absurd H (by simp)
   rw [if_pos c80] at H
   have LMc80 := Aside0.mk c80
   clear c80
   obtain ⟨y266, hy266⟩ : ∃ y_ : List (S26), y_ = (x7_1 ++ [(⟨x8_1, 0, y263⟩ : S26)]) := ⟨_, rfl⟩
   replace H : (spec_l01Cur_stash.l0 k1 t229 t230 y266 (wrap64 (x8_1 + 1)) s0_0 t261 t262) = some (r1, r2, r3, r4, r5) := by (rw [hy266]; with_reducible exact H)
   have Ny266 := Aside0.mk hy266
   clear hy266
   have H' := Aside0.mk H
   clear H
   go_wp2_with (first | ((with_reducible refine gate_callee (f := 82) rfl ?_); refine goesL_ (some 36) rfl rfl Try.func82 (by kernel_rfl) rfl #[.pointer (some ⟨g, 0, none⟩), .int .i64 2] rfl (by (try simp only [List.map_toArray, List.map_cons, List.map_nil]); rfl) ?_; (with_reducible refine (spec_l01Cur_pick.calls g s0_0 x1001_1 x1002_1 2 t260 t261 t262 w0 _ ?side1 ?side2 A74.out).mono ?_); (case side1 => repeat ((with_reducible exact HI0.out))); (case side2 => repeat ((with_reducible exact HB.out))); rintro e w81 ⟨rfl, hi, hb, hk⟩; refine ⟨_, rfl, ?_⟩; have n0_ := Aside0.mk (Kd.S_mono (Kd.S_keep (IsS92.apartS (show IsS92 w0 _ g s0_0 x1001_1 x1002_1 from by repeat ((with_reducible exact HI0.out))) (by (with_reducible repeat (first | apply Kd.S_alloc | apply Kd.S_drewN | apply Kd.S_drew)); exact HO_7.out) (by decide)) hk (fun _ h => h.2)) (fun _ h => h.1)); have n1_ := Aside0.mk (KeepBut.trans (by repeat ((with_reducible exact HK.out))) hk (.inl rfl)); have n2_ := Aside0.mk (hb); have n3_ := Aside0.mk (hi); clear HO_7; clear HK; clear HB; clear HI0; have HO_7 := n0_; have HK := n1_; have HB := n2_; have HI0 := n3_; clear n0_ n1_ n2_ n3_; (try clear hb); (try clear hb2); (try clear hk); (try clear hi)) | ((with_reducible refine gate_dst (N := 46) rfl ?_); refine Kd.R_make (Kd.int .u8) _ 5 rfl (N := 46) rfl 24 _ _ rfl ji77 rfl rfl Try.underlying24 (.int .u8 0) 1 info5 rfl (by decide) (by omega) 0 (ok := fun _ => True) (okp := fun _ => True) rfl (fun _ hk => hk) trivial (of_decide_eq_true (by (with_reducible assumption))) (Nat.le_trans (Nat.mul_le_mul_right _ (of_decide_eq_true (by (with_reducible assumption)) : ji77.toNat ≤ 281474976710656)) (by omega)) (Below.refl _ _) (Nat.le_refl _) ?_; intro v264 w82 ho83 hb hg_ hnew_; clear hg_ hnew_; (rw [← Ny263.out] at ho83); have n0_ := Aside0.mk (Kd.S_elder' (by (with_reducible repeat (first | apply Kd.S_alloc | apply Kd.S_drewN | apply Kd.S_drew)); exact HO_7.out) (Kd.R_base ho83) hb); have n1_ := Aside0.mk (Kd.R_lower ho83 (keep_size (w := w) (g := g) (row := none) (by repeat ((with_reducible exact HK.out))))); have n2_ := Aside0.mk (IsS92.below (by repeat ((with_reducible exact HI0.out))) hb); have n3_ := Aside0.mk (KeepBut.trans (by repeat ((with_reducible exact HK.out))) (KeepBut.of_below hb g none) (.inl rfl)); have n4_ := Aside0.mk (below_step (by repeat ((with_reducible exact HB.out))) hb); clear HO_7; clear HI0; clear HK; clear HB; have HO_7 := n0_; have HO265 := n1_; have HI0 := n2_; have HK := n3_; have HB := n4_; clear n0_ n1_ n2_ n3_ n4_; clear hb ho83; obtain ⟨Ao84, co84, eo84⟩ := Kd.R_slice HO265.out; subst eo84) | ((with_reducible refine gate_builtin (b := .append) (xs := #[.tmp 41, .tmp 48]) rfl ?_); at_builtin; refine Kd.S_append k26 w.heap.size rfl (.tmp 41) (.tmp 48) 29 26 (.agg #[(.int .i64 0), (.int .i64 0), (.slice none 0 0)]) 40 rfl Try.underlying29 info26 rfl (by decide) (by omega) u7 x7_1 (⟨x8_1, 0, y263⟩ : S26) [.int .i64 x8_1, .int .i64 0, .slice Ao84 y263.length co84] (fun _ => True) (fun k_ => some k_ = (.slice Ao84 y263.length co84 : Value).ownBlock) rfl rfl ?aP (fun k_ hk_ => ((Kd.R_mono (ok' := fun k_ => ((fun _ => True)) k_ ∧ some k_ ≠ (u7 : Value).ownBlock) (Kd.R_apart' (HO265.out) (Kd.S_typed HO_7.out) (by decide)) (fun k_ hk => ⟨trivial, hk.2⟩))).1 k_ hk_.symm) ?aF ?aO (Below.refl _ _) ?aS ?aL ?_; (case aP => exact k26_mkM _ _ _ (⟨x8_1, 0, y263⟩ : S26) (Kd.R_mono (Kd.R_tight rfl (Kd.R_mono (ok' := fun k_ => ((fun _ => True)) k_ ∧ some k_ ≠ (u7 : Value).ownBlock) (Kd.R_apart' (HO265.out) (Kd.S_typed HO_7.out) (by decide)) (fun k_ hk => ⟨trivial, hk.2⟩))) (fun _ h_ => h_))); (case aF => exact (fun _ _ => trivial)); (case aO => exact (by (with_reducible repeat (first | apply Kd.S_alloc | apply Kd.S_drewN | apply Kd.S_drew)); exact Kd.S_mono HO_7.out (fun k_ hk => ⟨trivial, fun e_ => hk.2 e_⟩))); (case aS => exact (keep_size (w := w) (g := g) (row := none) (by repeat ((with_reducible exact HK.out))))); (case aL => have := LMc80.out; omega); intro v267 w85 ho hb hg hat; rw [← Ny266.out] at ho; have n0_ := Aside0.mk (IsS92.grown (by repeat ((with_reducible exact HI0.out))) hg (IsS92.own_neS HI0.out HO_7.out (by decide))); have n1_ := Aside0.mk (below_weaken (by repeat ((with_reducible exact HB.out))) HL.out hb); have n2_ := Aside0.mk (KeepBut.trans (by repeat ((with_reducible exact HK.out))) (KeepBut.of_grown hg g) (Kd.S_base2 HO_7.out)); have n3_ := Aside0.mk (ho); clear HI0; clear HB; clear HK; clear HO_7; clear HO265; have HI0 := n0_; have HB := n1_; have HK := n2_; have HO268 := n3_; clear n0_ n1_ n2_ n3_; clear ho hb hg hat))
   go_roundg k1
   case measure => have := HK1.out; omega
   case rel => exact ⟨(y266), (wrap64 (x8_1 + 1)), (t261), (t262), (by rfl), H', ⟨by have := HK1.out; omega⟩, ⟨by (with_reducible repeat (first | apply Kd.S_alloc | apply Kd.S_drewN | apply Kd.S_drew)); exact HO268.out⟩, ⟨by repeat ((with_reducible exact HI0.out))⟩, ⟨by repeat ((with_reducible exact HK.out))⟩, ⟨by repeat ((with_reducible exact HB.out))⟩⟩

end Go.Proofs.Ytggfndobfpmoaaa.PFnEvicted

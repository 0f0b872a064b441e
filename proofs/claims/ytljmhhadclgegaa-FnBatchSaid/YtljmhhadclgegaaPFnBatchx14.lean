-- Laid by a program of this session: what the print of the kit writes, and contracts of the session where the print takes no function. Lean checks it.
import Derived.Test.YtljmhhadclgegaaPFnBatchx0
import Derived.Test.YtljmhhadclgegaaPFnBatchx1
import Derived.Test.YtljmhhadclgegaaPFnBatchx2
import Derived.Test.YtljmhhadclgegaaPFnBatchx3
import Derived.Test.YtljmhhadclgegaaPFnBatchx5
import Derived.Test.YtljmhhadclgegaaPFnBatchx7
import Derived.Test.YtljmhhadclgegaaPFnBatchx8
import Derived.Test.YtljmhhadclgegaaPFnBatchx11
import Derived.Test.YtljmhhadclgegaaPFnBatchx13
namespace Go.Proofs.Ytljmhhadclgegaa.PFnBatch
open Go.RowKit Go.Proofs.YtljmhhadclgegaaW.PrintWords Go.Proofs.YtljmhhadclgegaaW.PrintLast Go.Proofs.YtljmhhadclgegaaW.PrintMore
attribute [local go_sem] max2_int min2_int max_two min_two max_three min_three max_four min_four   -- for this text's walks alone
set_option linter.unusedVariables false
set_option linter.unusedSimpArgs false

/-! ### laws_FnBatch: function 8 -/
mutual
def laws_FnBatch.j0 : Nat → List ByteArray → ByteArray → Bool → Bool → Bool → Int → List Int → List Int → Option (Bool)
  | 0, _, _, _, _, _, _, _, _ => none
  | k + 1, x3, x4, x7, x9, x37, x523000, x523001, x523002 => if x37 = true then (some (x9 == x7)) else ((impl_PlanesWords.f k x523000 x523001 x523002).bind fun t523 => ((laws_sameWords.f k t523 x3).bind fun t526 => (if t526 = true then ((impl_PlanesOk.f k x523000 x523001 x523002).bind fun t527 => (laws_FnBatch.j1 k x3 x4 (!t527) x523000 x523001 x523002)) else (laws_FnBatch.j1 k x3 x4 true x523000 x523001 x523002))))
def laws_FnBatch.j1 : Nat → List ByteArray → ByteArray → Bool → Int → List Int → List Int → Option (Bool)
  | 0, _, _, _, _, _, _ => none
  | k + 1, x3, x4, x50, x523000, x523001, x523002 => if x50 = true then (some false) else ((impl_BatchCapped.f k x4 x523000 x523001 x523002).bind fun t528 => (if (x4.size : Int) > 32 then (some ((t528.length : Int) == 0)) else (laws_FnBatch.l0 k x3 x4 t528 0)))
def laws_FnBatch.l0 : Nat → List ByteArray → ByteArray → List Int → Int → Option (Bool)
  | 0, _, _, _, _ => none
  | k + 1, x3, x4, x10, x11 => if x11 < (x3.length : Int) then (if x11 ≥ (x10.length : Int) then (some false) else (if 0 ≤ x11 then (if x11 < (x10.length : Int) then ((impl_Capped.f k x4 (rdOf ByteArray.empty x3 x11)).bind fun t533 => (if (rd x10 x11) = t533 then ((spec_Capped.f k x4 (rdOf ByteArray.empty x3 x11)).bind fun t536 => (if (rd x10 x11) = t536 then (laws_FnBatch.l0 k x3 x4 x10 (wrap64 (x11 + 1))) else (some false))) else (some false))) else (none)) else (none))) else (some ((x10.length : Int) == (x3.length : Int)))
end
def laws_FnBatch.f (k : Nat) (l0 : List Int) : Option (Bool) := (laws_big.f l0).bind fun t492 => (if t492 = true then (some true) else ((spec_DrawPlanesOf.f k l0).bind fun t493 => ((spec_DrawBatchCapped.f k l0).bind fun bt496 => ((spec_PlanesOf.f k t493).bind fun bt505 => ((impl_PlanesOf.f k t493).bind fun bt514 => (if (bt514.2.2.2 != bt505.2.2.2) = true then (laws_FnBatch.j0 k t493 bt496.1 bt505.2.2.2 bt514.2.2.2 true bt514.1 bt514.2.1 bt514.2.2.1) else (laws_FnBatch.j0 k t493 bt496.1 bt505.2.2.2 bt514.2.2.2 (!bt514.2.2.2) bt514.1 bt514.2.1 bt514.2.2.1)))))))
theorem laws_FnBatch.mono_l : ∀ k, (∀ y0 y1 y2 y3 y4 y5 y6 y7, LeO (laws_FnBatch.j0 k y0 y1 y2 y3 y4 y5 y6 y7) (laws_FnBatch.j0 (k + 1) y0 y1 y2 y3 y4 y5 y6 y7)) ∧ (∀ y0 y1 y2 y3 y4 y5, LeO (laws_FnBatch.j1 k y0 y1 y2 y3 y4 y5) (laws_FnBatch.j1 (k + 1) y0 y1 y2 y3 y4 y5)) ∧ (∀ y0 y1 y2 y3, LeO (laws_FnBatch.l0 k y0 y1 y2 y3) (laws_FnBatch.l0 (k + 1) y0 y1 y2 y3))
  | 0 => ⟨fun _ _ _ _ _ _ _ _ r h => by simp [laws_FnBatch.j0] at h, fun _ _ _ _ _ _ r h => by simp [laws_FnBatch.j1] at h, fun _ _ _ _ r h => by simp [laws_FnBatch.l0] at h⟩
  | k + 1 => by
    obtain ⟨ih0, ih1, ih2⟩ := laws_FnBatch.mono_l k
    refine ⟨?_, ?_, ?_⟩
    · intro y0 y1 y2 y3 y4 y5 y6 y7
      unfold laws_FnBatch.j0
      repeat' first | (with_reducible exact ih1 _ _ _ _ _ _) | (with_reducible exact impl_PlanesOk.mono _ _ _ _) | (with_reducible exact impl_PlanesWords.mono _ _ _ _) | (with_reducible exact laws_sameWords.mono _ _ _) | (with_reducible exact LeO.refl _) | (with_reducible refine LeO.ite ?_ ?_) | (with_reducible refine LeO.bind ?_ (fun _ => ?_))
    · intro y0 y1 y2 y3 y4 y5
      unfold laws_FnBatch.j1
      repeat' first | (with_reducible exact ih2 _ _ _ _) | (with_reducible exact impl_BatchCapped.mono _ _ _ _ _) | (with_reducible exact LeO.refl _) | (with_reducible refine LeO.ite ?_ ?_) | (with_reducible refine LeO.bind ?_ (fun _ => ?_))
    · intro y0 y1 y2 y3
      unfold laws_FnBatch.l0
      repeat' first | (with_reducible exact ih2 _ _ _ _) | (with_reducible exact impl_Capped.mono _ _ _) | (with_reducible exact spec_Capped.mono _ _ _) | (with_reducible exact LeO.refl _) | (with_reducible refine LeO.ite ?_ ?_) | (with_reducible refine LeO.bind ?_ (fun _ => ?_))
theorem laws_FnBatch.mono : ∀ a0 k, LeO (laws_FnBatch.f k a0) (laws_FnBatch.f (k + 1) a0) := by
  intro a0 k
  obtain ⟨ih0, ih1, ih2⟩ := laws_FnBatch.mono_l k
  unfold laws_FnBatch.f
  repeat' first | (with_reducible exact ih0 _ _ _ _ _ _ _ _) | (with_reducible exact impl_PlanesOf.mono _ _) | (with_reducible exact spec_DrawBatchCapped.mono _ _) | (with_reducible exact spec_DrawPlanesOf.mono _ _) | (with_reducible exact spec_PlanesOf.mono _ _) | (with_reducible exact LeO.refl _) | (with_reducible refine LeO.ite ?_ ?_) | (with_reducible refine LeO.bind ?_ (fun _ => ?_))
def laws_FnBatch.T17 : Bool × List (List Nat × List Nat) := (true, [([], []), ([], []), ([1], [1]), ([0, 2], [0, 2]), ([3], [3]), ([4], [4]), ([4], [4]), ([5, 6, 4], [4, 5, 6]), ([7, 4], [4, 7]), ([4], [4]), ([4], [4]), ([4], [4]), ([10, 11, 4], [4, 10, 11]), ([12, 4], [4, 12]), ([9, 13, 4, 4], [4, 9, 13]), ([8, 14, 4], [4, 8, 14]), ([4, 15], [4, 15]), ([16, 14], [16]), ([17], [17]), ([17], [17]), ([18, 19, 17], [17, 18, 19]), ([20, 17], [17, 20]), ([17], [17]), ([17], [17]), ([17], [17]), ([23, 24, 17], [17, 23, 24]), ([25, 17], [17, 25]), ([22, 26, 17, 17], [17, 22, 26]), ([21, 27, 17], [17, 21, 27]), ([17, 28], [17, 28])])
def laws_FnBatch.B17 : List Nat := [0, 0, 2, 7, 15, 31, 31, 127, 255, 31, 31, 31, 3103, 7199, 15903, 32767, 65535, 131071, 262143, 262143, 1048575, 2097151, 262143, 262143, 262143, 25427967, 58982399, 130285567, 268435455, 536870911]
theorem laws_FnBatch.tab17 : rtab .any (opsOf Try.f8 17) = laws_FnBatch.T17 := by kernel_rfl
theorem laws_FnBatch.bits17 : waitsOk laws_FnBatch.T17.2 laws_FnBatch.B17 = true := by kernel_rfl
set_option maxHeartbeats 8000000 in
set_option maxRecDepth 100000 in
theorem laws_FnBatch.calls (k : Nat) (A0 : Option Addr) (c0 : Nat) (l0 : List Int) (r : Bool) (w : World) (hr0 : Kd.C (Kd.int .u8) w A0 l0.length l0) (hc0 : l0.length ≤ c0) (h : laws_FnBatch.f k l0 = some r) (hT_ : r = true := by rfl) :
    Calls Try.prog 8 #[.slice A0 l0.length c0] w fun e w' => e = .returned (.bool r) ∧ Below w.heap.size w w' := by
  have HTRUE_ := Aside0.mk hT_
  clear hT_
  have hu37 := Try.underlying37
  have HR0 := Aside0.mk hr0
  have HC0 := Aside0.mk hc0
  clear hr0 hc0
  have HB := Aside0.mk (Below.refl w.heap.size w)
  have H : ((laws_big.f l0).bind fun t492 => (if t492 = true then (some true) else ((spec_DrawPlanesOf.f k l0).bind fun t493 => ((spec_DrawBatchCapped.f k l0).bind fun bt496 => ((spec_PlanesOf.f k t493).bind fun bt505 => ((impl_PlanesOf.f k t493).bind fun bt514 => (if (bt514.2.2.2 != bt505.2.2.2) = true then (laws_FnBatch.j0 k t493 bt496.1 bt505.2.2.2 bt514.2.2.2 true bt514.1 bt514.2.1 bt514.2.2.1) else (laws_FnBatch.j0 k t493 bt496.1 bt505.2.2.2 bt514.2.2.2 (!bt514.2.2.2) bt514.1 bt514.2.1 bt514.2.2.1)))))))) = some r := h
  clear h
  replace H := Option.bind_eq_some_iff.mp H
  obtain ⟨t492, A20, H⟩ := H
  replace H : (if t492 = true then (some true) else ((spec_DrawPlanesOf.f k l0).bind fun t493 => ((spec_DrawBatchCapped.f k l0).bind fun bt496 => ((spec_PlanesOf.f k t493).bind fun bt505 => ((impl_PlanesOf.f k t493).bind fun bt514 => (if (bt514.2.2.2 != bt505.2.2.2) = true then (laws_FnBatch.j0 k t493 bt496.1 bt505.2.2.2 bt514.2.2.2 true bt514.1 bt514.2.1 bt514.2.2.1) else (laws_FnBatch.j0 k t493 bt496.1 bt505.2.2.2 bt514.2.2.2 (!bt514.2.2.2) bt514.1 bt514.2.1 bt514.2.2.1))))))) = some r := H
  have A2 := Aside0.mk A20
  clear A20
  by_cases c3 : t492 = true
  · subst c3
    have H1 : (some true) = some r := by rw [if_pos rfl] at H; exact H
    clear H
    have H := H1
    clear H1
    obtain rfl := Option.some.inj H
    go_enter Try.func8, Try.ntmps8
    go_wp2_with (((with_reducible refine gate_callee (f := 9) rfl ?_); refine goesL_ (some 13) rfl rfl Try.func9 (by kernel_rfl) rfl #[.slice A0 l0.length c0] rfl (by (try simp only [List.map_toArray, List.map_cons, List.map_nil]); rfl) ?_; (with_reducible refine (laws_big.calls _ _ l0 true _ ?side1 ?side2 A2.out).mono ?_); (case side1 => repeat (exact HR0.out)); (case side2 => exact HC0.out); rintro e w' ⟨rfl, ⟨nd, rfl⟩⟩; refine ⟨_, rfl, ?_⟩))
    go_ret
    exact ⟨by rfl, by repeat ((with_reducible first | exact HB.out | apply pw_below_drewN))⟩
  · replace c3 := Bool.eq_false_iff.mpr c3
    subst c3
    have H1 : ((spec_DrawPlanesOf.f k l0).bind fun t493 => ((spec_DrawBatchCapped.f k l0).bind fun bt496 => ((spec_PlanesOf.f k t493).bind fun bt505 => ((impl_PlanesOf.f k t493).bind fun bt514 => (if (bt514.2.2.2 != bt505.2.2.2) = true then (laws_FnBatch.j0 k t493 bt496.1 bt505.2.2.2 bt514.2.2.2 true bt514.1 bt514.2.1 bt514.2.2.1) else (laws_FnBatch.j0 k t493 bt496.1 bt505.2.2.2 bt514.2.2.2 (!bt514.2.2.2) bt514.1 bt514.2.1 bt514.2.2.1)))))) = some r := by rw [if_neg (show ¬ (false = true) by decide)] at H; exact H
    clear H
    have H := H1
    clear H1
    replace H := Option.bind_eq_some_iff.mp H
    obtain ⟨t493, A40, H⟩ := H
    replace H : ((spec_DrawBatchCapped.f k l0).bind fun bt496 => ((spec_PlanesOf.f k t493).bind fun bt505 => ((impl_PlanesOf.f k t493).bind fun bt514 => (if (bt514.2.2.2 != bt505.2.2.2) = true then (laws_FnBatch.j0 k t493 bt496.1 bt505.2.2.2 bt514.2.2.2 true bt514.1 bt514.2.1 bt514.2.2.1) else (laws_FnBatch.j0 k t493 bt496.1 bt505.2.2.2 bt514.2.2.2 (!bt514.2.2.2) bt514.1 bt514.2.1 bt514.2.2.1))))) = some r := H
    have A4 := Aside0.mk A40
    clear A40
    replace H := Option.bind_eq_some_iff.mp H
    obtain ⟨⟨t496, t497, t498, t501⟩, A50, H⟩ := H
    replace H : ((spec_PlanesOf.f k t493).bind fun bt505 => ((impl_PlanesOf.f k t493).bind fun bt514 => (if (bt514.2.2.2 != bt505.2.2.2) = true then (laws_FnBatch.j0 k t493 t496 bt505.2.2.2 bt514.2.2.2 true bt514.1 bt514.2.1 bt514.2.2.1) else (laws_FnBatch.j0 k t493 t496 bt505.2.2.2 bt514.2.2.2 (!bt514.2.2.2) bt514.1 bt514.2.1 bt514.2.2.1)))) = some r := H
    have A5 := Aside0.mk A50
    clear A50
    replace H := Option.bind_eq_some_iff.mp H
    obtain ⟨⟨t505, t506, t509, t512⟩, A60, H⟩ := H
    replace H : ((impl_PlanesOf.f k t493).bind fun bt514 => (if (bt514.2.2.2 != t512) = true then (laws_FnBatch.j0 k t493 t496 t512 bt514.2.2.2 true bt514.1 bt514.2.1 bt514.2.2.1) else (laws_FnBatch.j0 k t493 t496 t512 bt514.2.2.2 (!bt514.2.2.2) bt514.1 bt514.2.1 bt514.2.2.1))) = some r := H
    have A6 := Aside0.mk A60
    clear A60
    replace H := Option.bind_eq_some_iff.mp H
    obtain ⟨⟨t514, t515, t518, t521⟩, A70, H⟩ := H
    replace H : (if (t521 != t512) = true then (laws_FnBatch.j0 k t493 t496 t512 t521 true t514 t515 t518) else (laws_FnBatch.j0 k t493 t496 t512 t521 (!t521) t514 t515 t518)) = some r := H
    have A7 := Aside0.mk A70
    clear A70
    have HC8 := Aside0.mk H
    clear H
    go_enter Try.func8, Try.ntmps8
    go_upto_region 7 with (first | ((with_reducible refine gate_callee (f := 9) rfl ?_); refine goesL_ (some 13) rfl rfl Try.func9 (by kernel_rfl) rfl #[.slice A0 l0.length c0] rfl (by (try simp only [List.map_toArray, List.map_cons, List.map_nil]); rfl) ?_; (with_reducible refine (laws_big.calls _ _ l0 false _ ?side1 ?side2 A2.out).mono ?_); (case side1 => repeat (exact HR0.out)); (case side2 => exact HC0.out); rintro e w' ⟨rfl, ⟨nd, rfl⟩⟩; refine ⟨_, rfl, ?_⟩) | ((with_reducible refine gate_callee (f := 38) rfl ?_); refine goesL_ (some 15) rfl rfl Try.func38 (by kernel_rfl) rfl #[.slice A0 l0.length c0] rfl (by (try simp only [List.map_toArray, List.map_cons, List.map_nil]); rfl) ?_; (with_reducible refine (spec_DrawPlanesOf.calls k _ _ l0 t493 _ ?side1 ?side2 A4.out).mono ?_); (case side1 => repeat (exact HR0.out)); (case side2 => exact HC0.out); rintro e w9 ⟨v494, rfl, ho0, hb⟩; refine ⟨_, rfl, ?_⟩; have n0_ := Aside0.mk (Kd.R_lower ho0 (below_size (by repeat ((with_reducible first | exact HB.out | apply pw_below_drewN))))); have n1_ := Aside0.mk (below_step (by repeat ((with_reducible first | exact HB.out | apply pw_below_drewN))) hb); clear HB; have HO495 := n0_; have HB := n1_; clear n0_ n1_; (try clear hb); (try clear hb2); (try clear hk); (try clear hi); (try clear ho0)) | ((with_reducible refine gate_callee (f := 39) rfl ?_); refine goesL_ (some 18) rfl rfl Try.func39 (by kernel_rfl) rfl #[.slice A0 l0.length c0] rfl (by (try simp only [List.map_toArray, List.map_cons, List.map_nil]); rfl) ?_; (with_reducible refine (spec_DrawBatchCapped.calls k _ _ l0 t496 t497 t498 t501 _ ?side1 ?side2 A5.out).mono ?_); (case side1 => repeat (exact (Kd.C_below HR0.out HB.out))); (case side2 => exact HC0.out); rintro e w10 ⟨v499, v502, rfl, ho0, ho1, hb⟩; refine ⟨_, rfl, ?_⟩; have n0_ := Aside0.mk (Kd.R_below (by (with_reducible repeat (first | apply Kd.R_alloc | apply Kd.R_drewN | apply Kd.R_drew)); exact HO495.out) hb); have n1_ := Aside0.mk (Kd.Q_lower ho0 (below_size (by repeat ((with_reducible exact HB.out))))); have n2_ := Aside0.mk (Kd.R_lower ho1 (below_size (by repeat ((with_reducible exact HB.out))))); have n3_ := Aside0.mk (below_step (by repeat ((with_reducible exact HB.out))) hb); clear HO495; clear HB; have HO495 := n0_; have HO500 := n1_; have HO503 := n2_; have HB := n3_; clear n0_ n1_ n2_ n3_; (try clear hb); (try clear hb2); (try clear hk); (try clear hi); (try clear ho0); (try clear ho1)) | ((with_reducible refine gate_dst (N := 5) rfl ?_); refine box_event ?hg (N := 5) ?hd (cs := #[.int .i64 0, .slice none 0 0, .slice none 0 0]) (t := 37) ?hr ?_; (case hd => rfl); (case hg => rfl); (case hr => (go_simp; done)); intro gb504 hg w11 hbox hb; have n0_ := Aside0.mk (Kd.R_below (by (with_reducible repeat (first | apply Kd.R_alloc | apply Kd.R_drewN | apply Kd.R_drew)); exact HO495.out) hb); have n1_ := Aside0.mk (Kd.Q_below (by (with_reducible repeat (first | apply Kd.Q_alloc | apply Kd.Q_drewN | apply Kd.Q_drew)); exact HO500.out) hb); have n2_ := Aside0.mk (Kd.R_below (by (with_reducible repeat (first | apply Kd.R_alloc | apply Kd.R_drewN | apply Kd.R_drew)); exact HO503.out) hb); have n3_ := Aside0.mk (below_step (by repeat ((with_reducible exact HB.out))) hb); have n4_ := Aside0.mk (hbox); have n5_ := Aside0.mk ((by rw [hg]; exact (below_size (by repeat ((with_reducible exact HB.out)))) : w.heap.size ≤ gb504)); have n6_ := Aside0.mk ((by rw [hg]; exact (below_size (by repeat ((with_reducible exact HB.out)))) : w.heap.size ≤ gb504)); clear HO495; clear HO500; clear HO503; clear HB; have HO495 := n0_; have HO500 := n1_; have HO503 := n2_; have HB := n3_; have BK504 := n4_; have GW504 := n5_; have GE504 := n6_; clear n0_ n1_ n2_ n3_ n4_ n5_ n6_; clear hb hbox hg; have hcz12_0 : w11.cell? ⟨gb504, 0, none⟩ = some (.int .i64 0) := (blk_cell BK504.out 0).trans rfl; have hcz12_1 : w11.cell? ⟨gb504, 1, none⟩ = some (.slice none 0 0) := (blk_cell BK504.out 1).trans rfl; have hcz12_2 : w11.cell? ⟨gb504, 2, none⟩ = some (.slice none 0 0) := (blk_cell BK504.out 2).trans rfl; have hfz12_0 := blk_frozen BK504.out 0; have hfz12_1 := blk_frozen BK504.out 1; have hfz12_2 := blk_frozen BK504.out 2; obtain ⟨Ao13, co13, eo13, _⟩ := Kd.Q_slice HO500.out; subst eo13; obtain ⟨Ao14, co14, eo14⟩ := Kd.R_slice HO503.out; subst eo14; obtain ⟨Ao15, co15, eo15⟩ := Kd.R_slice HO495.out; subst eo15) | ((with_reducible refine gate_callee (f := 18) rfl ?_); refine goesL_ (some 23) rfl rfl Try.func18 (by kernel_rfl) rfl #[.slice Ao15 t493.length co15] rfl (by (try simp only [List.map_toArray, List.map_cons, List.map_nil]); rfl) ?_; (with_reducible refine (spec_PlanesOf.calls k _ _ t493 t505 t506 t509 t512 _ ?side1 ?side2 A6.out).mono ?_); (case side1 => refine (Kd.R_reads' (e := 9) (base := w.heap.size) (ok := fun k_ => True) (n := t493.length) (c := co15) ?_).2.2; exact (by (with_reducible repeat (first | apply Kd.R_alloc | apply Kd.R_drewN | apply Kd.R_drew)); exact (Kd.R_mono (Kd.R_far (p := ⟨gb504, 2, none⟩) (Kd.R_far (p := ⟨gb504, 1, none⟩) (Kd.R_far (p := ⟨gb504, 0, none⟩) (Kd.R_types HO495.out BK504.out (by decide)) (fun _ hk => by exact hk.2) (.int .i64 t497)) (fun _ hk => by exact hk.2) (.slice Ao13 t498.length co13)) (fun _ hk => by exact hk.2) (.slice Ao14 t501.length co14)) (fun _ h_ => h_.1)))); (case side2 => exact (Kd.R_reads' HO495.out).2.1); rintro e w16 ⟨v507, v510, rfl, ho0, ho1, hb⟩; refine ⟨_, rfl, ?_⟩; have n0_ := Aside0.mk (Kd.R_below (by (with_reducible repeat (first | apply Kd.R_alloc | apply Kd.R_drewN | apply Kd.R_drew)); exact (Kd.R_mono (Kd.R_far (p := ⟨gb504, 2, none⟩) (Kd.R_far (p := ⟨gb504, 1, none⟩) (Kd.R_far (p := ⟨gb504, 0, none⟩) (Kd.R_types HO495.out BK504.out (by decide)) (fun _ hk => by exact hk.2) (.int .i64 t497)) (fun _ hk => by exact hk.2) (.slice Ao13 t498.length co13)) (fun _ hk => by exact hk.2) (.slice Ao14 t501.length co14)) (fun _ h_ => h_.1))) hb); have n1_ := Aside0.mk (Kd.Q_mono (Kd.Q_told (Kd.Q_told (Kd.Q_old (by (with_reducible repeat (first | apply Kd.Q_alloc | apply Kd.Q_drewN | apply Kd.Q_drew)); exact (Kd.Q_mono (Kd.Q_far (p := ⟨gb504, 2, none⟩) (Kd.Q_far (p := ⟨gb504, 1, none⟩) (Kd.Q_far (p := ⟨gb504, 0, none⟩) (Kd.Q_types HO500.out BK504.out (by decide)) (fun _ hk => by exact hk.2) (.int .i64 t497)) (fun _ hk => by exact hk.2) (.slice Ao13 t498.length co13)) (fun _ hk => by exact hk.2) (.slice Ao14 t501.length co14)) (fun _ h_ => h_.1))) hb) (Kd.R_base ho0)) (Kd.R_base ho1)) (fun _ h_ => h_.1)); have n2_ := Aside0.mk (Kd.R_mono (Kd.R_told (Kd.R_told (Kd.R_old (by (with_reducible repeat (first | apply Kd.R_alloc | apply Kd.R_drewN | apply Kd.R_drew)); exact (Kd.R_mono (Kd.R_far (p := ⟨gb504, 2, none⟩) (Kd.R_far (p := ⟨gb504, 1, none⟩) (Kd.R_far (p := ⟨gb504, 0, none⟩) (Kd.R_types HO503.out BK504.out (by decide)) (fun _ hk => by exact hk.2) (.int .i64 t497)) (fun _ hk => by exact hk.2) (.slice Ao13 t498.length co13)) (fun _ hk => by exact hk.2) (.slice Ao14 t501.length co14)) (fun _ h_ => h_.1))) hb) (Kd.R_base ho0)) (Kd.R_base ho1)) (fun _ h_ => h_.1)); have n3_ := Aside0.mk (Kd.R_lower (Kd.R_new' (Kd.R_new' ho0 (Kd.Q_lt (by (with_reducible repeat (first | apply Kd.Q_alloc | apply Kd.Q_drewN | apply Kd.Q_drew)); exact (Kd.Q_mono (Kd.Q_far (p := ⟨gb504, 2, none⟩) (Kd.Q_far (p := ⟨gb504, 1, none⟩) (Kd.Q_far (p := ⟨gb504, 0, none⟩) (Kd.Q_types HO500.out BK504.out (by decide)) (fun _ hk => by exact hk.2) (.int .i64 t497)) (fun _ hk => by exact hk.2) (.slice Ao13 t498.length co13)) (fun _ hk => by exact hk.2) (.slice Ao14 t501.length co14)) (fun _ h_ => h_.1))))) (Kd.R_lt (by (with_reducible repeat (first | apply Kd.R_alloc | apply Kd.R_drewN | apply Kd.R_drew)); exact (Kd.R_mono (Kd.R_far (p := ⟨gb504, 2, none⟩) (Kd.R_far (p := ⟨gb504, 1, none⟩) (Kd.R_far (p := ⟨gb504, 0, none⟩) (Kd.R_types HO503.out BK504.out (by decide)) (fun _ hk => by exact hk.2) (.int .i64 t497)) (fun _ hk => by exact hk.2) (.slice Ao13 t498.length co13)) (fun _ hk => by exact hk.2) (.slice Ao14 t501.length co14)) (fun _ h_ => h_.1))))) (below_size (by repeat ((with_reducible first | exact HB.out | refine below_set ?_ GE504.out))))); have n4_ := Aside0.mk (Kd.R_lower (Kd.R_new' (Kd.R_new' ho1 (Kd.Q_lt (by (with_reducible repeat (first | apply Kd.Q_alloc | apply Kd.Q_drewN | apply Kd.Q_drew)); exact (Kd.Q_mono (Kd.Q_far (p := ⟨gb504, 2, none⟩) (Kd.Q_far (p := ⟨gb504, 1, none⟩) (Kd.Q_far (p := ⟨gb504, 0, none⟩) (Kd.Q_types HO500.out BK504.out (by decide)) (fun _ hk => by exact hk.2) (.int .i64 t497)) (fun _ hk => by exact hk.2) (.slice Ao13 t498.length co13)) (fun _ hk => by exact hk.2) (.slice Ao14 t501.length co14)) (fun _ h_ => h_.1))))) (Kd.R_lt (by (with_reducible repeat (first | apply Kd.R_alloc | apply Kd.R_drewN | apply Kd.R_drew)); exact (Kd.R_mono (Kd.R_far (p := ⟨gb504, 2, none⟩) (Kd.R_far (p := ⟨gb504, 1, none⟩) (Kd.R_far (p := ⟨gb504, 0, none⟩) (Kd.R_types HO503.out BK504.out (by decide)) (fun _ hk => by exact hk.2) (.int .i64 t497)) (fun _ hk => by exact hk.2) (.slice Ao13 t498.length co13)) (fun _ hk => by exact hk.2) (.slice Ao14 t501.length co14)) (fun _ h_ => h_.1))))) (below_size (by repeat ((with_reducible first | exact HB.out | refine below_set ?_ GE504.out))))); have n5_ := Aside0.mk (blk_below (g := gb504) (o := .cells #[.int .i64 t497, .slice Ao13 t498.length co13, .slice Ao14 t501.length co14] 37 (0, 0)) (by (with_reducible repeat (first | refine blk_drewN ?_ _ | refine blk_drew ?_ | refine blk_alloc ?_ _)); refine blk_put (cs := #[.int .i64 t497, .slice Ao13 t498.length co13, .slice none 0 0]) ?_ 2 _ rfl; (with_reducible repeat (first | refine blk_drewN ?_ _ | refine blk_drew ?_ | refine blk_alloc ?_ _)); refine blk_put (cs := #[.int .i64 t497, .slice none 0 0, .slice none 0 0]) ?_ 1 _ rfl; (with_reducible repeat (first | refine blk_drewN ?_ _ | refine blk_drew ?_ | refine blk_alloc ?_ _)); refine blk_put (cs := #[.int .i64 0, .slice none 0 0, .slice none 0 0]) ?_ 0 _ rfl; (with_reducible repeat (first | refine blk_drewN ?_ _ | refine blk_drew ?_ | refine blk_alloc ?_ _)); exact BK504.out) hb); have n6_ := Aside0.mk (below_step (by repeat ((with_reducible first | exact HB.out | refine below_set ?_ GE504.out))) hb); clear HO495; clear HO500; clear HO503; clear BK504; clear HB; have HO495 := n0_; have HO500 := n1_; have HO503 := n2_; have HO508 := n3_; have HO511 := n4_; have BK504 := n5_; have HB := n6_; clear n0_ n1_ n2_ n3_ n4_ n5_ n6_; (try clear hb); (try clear hb2); (try clear hk); (try clear hi); (try clear ho0); (try clear ho1)) | ((with_reducible refine gate_dst (N := 6) rfl ?_); refine box_event ?hg (N := 6) ?hd (cs := #[.int .i64 0, .slice none 0 0, .slice none 0 0]) (t := 37) ?hr ?_; (case hd => rfl); (case hg => rfl); (case hr => (go_simp; done)); intro gb513 hg w17 hbox hb; have n0_ := Aside0.mk (Kd.R_below (by (with_reducible repeat (first | apply Kd.R_alloc | apply Kd.R_drewN | apply Kd.R_drew)); exact HO495.out) hb); have n1_ := Aside0.mk (Kd.Q_below (by (with_reducible repeat (first | apply Kd.Q_alloc | apply Kd.Q_drewN | apply Kd.Q_drew)); exact HO500.out) hb); have n2_ := Aside0.mk (Kd.R_below (by (with_reducible repeat (first | apply Kd.R_alloc | apply Kd.R_drewN | apply Kd.R_drew)); exact HO503.out) hb); have n3_ := Aside0.mk (Kd.R_below (by (with_reducible repeat (first | apply Kd.R_alloc | apply Kd.R_drewN | apply Kd.R_drew)); exact HO508.out) hb); have n4_ := Aside0.mk (Kd.R_below (by (with_reducible repeat (first | apply Kd.R_alloc | apply Kd.R_drewN | apply Kd.R_drew)); exact HO511.out) hb); have n5_ := Aside0.mk (blk_below (g := gb504) (o := .cells #[.int .i64 t497, .slice Ao13 t498.length co13, .slice Ao14 t501.length co14] 37 (0, 0)) (by (with_reducible repeat (first | refine blk_drewN ?_ _ | refine blk_drew ?_ | refine blk_alloc ?_ _)); exact BK504.out) hb); have n6_ := Aside0.mk (below_step (by repeat ((with_reducible exact HB.out))) hb); have n7_ := Aside0.mk (hbox); have n8_ := Aside0.mk ((by rw [hg]; exact (below_size (by repeat ((with_reducible exact HB.out)))) : w.heap.size ≤ gb513)); have n9_ := Aside0.mk ((by rw [hg]; exact (below_size (by repeat ((with_reducible exact HB.out)))) : w.heap.size ≤ gb513)); have n10_ := Aside0.mk ((by rw [hg]; exact Nat.ne_of_lt (blk_lt (g := gb504) (o := .cells #[.int .i64 t497, .slice Ao13 t498.length co13, .slice Ao14 t501.length co14] 37 (0, 0)) (by (with_reducible repeat (first | refine blk_drewN ?_ _ | refine blk_drew ?_ | refine blk_alloc ?_ _)); exact BK504.out)) : gb504 ≠ gb513)); have n11_ := Aside0.mk ((by rw [hg]; exact Nat.ne_of_gt (blk_lt (g := gb504) (o := .cells #[.int .i64 t497, .slice Ao13 t498.length co13, .slice Ao14 t501.length co14] 37 (0, 0)) (by (with_reducible repeat (first | refine blk_drewN ?_ _ | refine blk_drew ?_ | refine blk_alloc ?_ _)); exact BK504.out)) : gb513 ≠ gb504)); clear HO495; clear HO500; clear HO503; clear HO508; clear HO511; clear BK504; clear HB; have HO495 := n0_; have HO500 := n1_; have HO503 := n2_; have HO508 := n3_; have HO511 := n4_; have BK504 := n5_; have HB := n6_; have BK513 := n7_; have GW513 := n8_; have GE513 := n9_; have NB504_513 := n10_; have NB513_504 := n11_; clear n0_ n1_ n2_ n3_ n4_ n5_ n6_ n7_ n8_ n9_ n10_ n11_; clear hb hbox hg; have hnb18 := NB513_504.out; have hnc18 := NB504_513.out; have hcz19_0 : w17.cell? ⟨gb513, 0, none⟩ = some (.int .i64 0) := (blk_cell BK513.out 0).trans rfl; have hcz19_1 : w17.cell? ⟨gb513, 1, none⟩ = some (.slice none 0 0) := (blk_cell BK513.out 1).trans rfl; have hcz19_2 : w17.cell? ⟨gb513, 2, none⟩ = some (.slice none 0 0) := (blk_cell BK513.out 2).trans rfl; have hfz19_0 := blk_frozen BK513.out 0; have hfz19_1 := blk_frozen BK513.out 1; have hfz19_2 := blk_frozen BK513.out 2; obtain ⟨Ao20, co20, eo20⟩ := Kd.R_slice HO508.out; subst eo20; obtain ⟨Ao21, co21, eo21⟩ := Kd.R_slice HO511.out; subst eo21) | ((with_reducible refine gate_callee (f := 20) rfl ?_); refine goesL_ (some 28) rfl rfl Try.func20 (by kernel_rfl) rfl #[.slice Ao15 t493.length co15] rfl (by (try simp only [List.map_toArray, List.map_cons, List.map_nil]); rfl) ?_; (with_reducible refine (impl_PlanesOf.calls k _ _ t493 t514 t515 t518 t521 _ ?side1 ?side2 A7.out).mono ?_); (case side1 => refine (Kd.R_reads' (e := 9) (base := w.heap.size) (ok := fun k_ => True) (n := t493.length) (c := co15) ?_).2.2; exact (by (with_reducible repeat (first | apply Kd.R_alloc | apply Kd.R_drewN | apply Kd.R_drew)); exact (Kd.R_mono (Kd.R_far (p := ⟨gb513, 2, none⟩) (Kd.R_far (p := ⟨gb513, 1, none⟩) (Kd.R_far (p := ⟨gb513, 0, none⟩) (Kd.R_types HO495.out BK513.out (by decide)) (fun _ hk => by exact hk.2) (.int .i64 t505)) (fun _ hk => by exact hk.2) (.slice Ao20 t506.length co20)) (fun _ hk => by exact hk.2) (.slice Ao21 t509.length co21)) (fun _ h_ => h_.1)))); (case side2 => exact (Kd.R_reads' HO495.out).2.1); rintro e w22 ⟨v516, v519, rfl, ho0, ho1, hb⟩; refine ⟨_, rfl, ?_⟩; have n0_ := Aside0.mk (Kd.R_below (by (with_reducible repeat (first | apply Kd.R_alloc | apply Kd.R_drewN | apply Kd.R_drew)); exact (Kd.R_mono (Kd.R_far (p := ⟨gb513, 2, none⟩) (Kd.R_far (p := ⟨gb513, 1, none⟩) (Kd.R_far (p := ⟨gb513, 0, none⟩) (Kd.R_types HO495.out BK513.out (by decide)) (fun _ hk => by exact hk.2) (.int .i64 t505)) (fun _ hk => by exact hk.2) (.slice Ao20 t506.length co20)) (fun _ hk => by exact hk.2) (.slice Ao21 t509.length co21)) (fun _ h_ => h_.1))) hb); have n1_ := Aside0.mk (Kd.Q_mono (Kd.Q_told (Kd.Q_told (Kd.Q_old (by (with_reducible repeat (first | apply Kd.Q_alloc | apply Kd.Q_drewN | apply Kd.Q_drew)); exact (Kd.Q_mono (Kd.Q_far (p := ⟨gb513, 2, none⟩) (Kd.Q_far (p := ⟨gb513, 1, none⟩) (Kd.Q_far (p := ⟨gb513, 0, none⟩) (Kd.Q_types HO500.out BK513.out (by decide)) (fun _ hk => by exact hk.2) (.int .i64 t505)) (fun _ hk => by exact hk.2) (.slice Ao20 t506.length co20)) (fun _ hk => by exact hk.2) (.slice Ao21 t509.length co21)) (fun _ h_ => h_.1))) hb) (Kd.R_base ho0)) (Kd.R_base ho1)) (fun _ h_ => h_.1)); have n2_ := Aside0.mk (Kd.R_mono (Kd.R_told (Kd.R_told (Kd.R_old (by (with_reducible repeat (first | apply Kd.R_alloc | apply Kd.R_drewN | apply Kd.R_drew)); exact (Kd.R_mono (Kd.R_far (p := ⟨gb513, 2, none⟩) (Kd.R_far (p := ⟨gb513, 1, none⟩) (Kd.R_far (p := ⟨gb513, 0, none⟩) (Kd.R_types HO503.out BK513.out (by decide)) (fun _ hk => by exact hk.2) (.int .i64 t505)) (fun _ hk => by exact hk.2) (.slice Ao20 t506.length co20)) (fun _ hk => by exact hk.2) (.slice Ao21 t509.length co21)) (fun _ h_ => h_.1))) hb) (Kd.R_base ho0)) (Kd.R_base ho1)) (fun _ h_ => h_.1)); have n3_ := Aside0.mk (Kd.R_mono (Kd.R_told (Kd.R_told (Kd.R_old (by (with_reducible repeat (first | apply Kd.R_alloc | apply Kd.R_drewN | apply Kd.R_drew)); exact (Kd.R_mono (Kd.R_far (p := ⟨gb513, 2, none⟩) (Kd.R_far (p := ⟨gb513, 1, none⟩) (Kd.R_far (p := ⟨gb513, 0, none⟩) (Kd.R_types HO508.out BK513.out (by decide)) (fun _ hk => by exact hk.2) (.int .i64 t505)) (fun _ hk => by exact hk.2) (.slice Ao20 t506.length co20)) (fun _ hk => by exact hk.2) (.slice Ao21 t509.length co21)) (fun _ h_ => h_.1))) hb) (Kd.R_base ho0)) (Kd.R_base ho1)) (fun _ h_ => h_.1)); have n4_ := Aside0.mk (Kd.R_mono (Kd.R_told (Kd.R_told (Kd.R_old (by (with_reducible repeat (first | apply Kd.R_alloc | apply Kd.R_drewN | apply Kd.R_drew)); exact (Kd.R_mono (Kd.R_far (p := ⟨gb513, 2, none⟩) (Kd.R_far (p := ⟨gb513, 1, none⟩) (Kd.R_far (p := ⟨gb513, 0, none⟩) (Kd.R_types HO511.out BK513.out (by decide)) (fun _ hk => by exact hk.2) (.int .i64 t505)) (fun _ hk => by exact hk.2) (.slice Ao20 t506.length co20)) (fun _ hk => by exact hk.2) (.slice Ao21 t509.length co21)) (fun _ h_ => h_.1))) hb) (Kd.R_base ho0)) (Kd.R_base ho1)) (fun _ h_ => h_.1)); have n5_ := Aside0.mk (Kd.R_lower (Kd.R_new' (Kd.R_new' (Kd.R_new' (Kd.R_new' ho0 (Kd.Q_lt (by (with_reducible repeat (first | apply Kd.Q_alloc | apply Kd.Q_drewN | apply Kd.Q_drew)); exact (Kd.Q_mono (Kd.Q_far (p := ⟨gb513, 2, none⟩) (Kd.Q_far (p := ⟨gb513, 1, none⟩) (Kd.Q_far (p := ⟨gb513, 0, none⟩) (Kd.Q_types HO500.out BK513.out (by decide)) (fun _ hk => by exact hk.2) (.int .i64 t505)) (fun _ hk => by exact hk.2) (.slice Ao20 t506.length co20)) (fun _ hk => by exact hk.2) (.slice Ao21 t509.length co21)) (fun _ h_ => h_.1))))) (Kd.R_lt (by (with_reducible repeat (first | apply Kd.R_alloc | apply Kd.R_drewN | apply Kd.R_drew)); exact (Kd.R_mono (Kd.R_far (p := ⟨gb513, 2, none⟩) (Kd.R_far (p := ⟨gb513, 1, none⟩) (Kd.R_far (p := ⟨gb513, 0, none⟩) (Kd.R_types HO503.out BK513.out (by decide)) (fun _ hk => by exact hk.2) (.int .i64 t505)) (fun _ hk => by exact hk.2) (.slice Ao20 t506.length co20)) (fun _ hk => by exact hk.2) (.slice Ao21 t509.length co21)) (fun _ h_ => h_.1))))) (Kd.R_lt (by (with_reducible repeat (first | apply Kd.R_alloc | apply Kd.R_drewN | apply Kd.R_drew)); exact (Kd.R_mono (Kd.R_far (p := ⟨gb513, 2, none⟩) (Kd.R_far (p := ⟨gb513, 1, none⟩) (Kd.R_far (p := ⟨gb513, 0, none⟩) (Kd.R_types HO508.out BK513.out (by decide)) (fun _ hk => by exact hk.2) (.int .i64 t505)) (fun _ hk => by exact hk.2) (.slice Ao20 t506.length co20)) (fun _ hk => by exact hk.2) (.slice Ao21 t509.length co21)) (fun _ h_ => h_.1))))) (Kd.R_lt (by (with_reducible repeat (first | apply Kd.R_alloc | apply Kd.R_drewN | apply Kd.R_drew)); exact (Kd.R_mono (Kd.R_far (p := ⟨gb513, 2, none⟩) (Kd.R_far (p := ⟨gb513, 1, none⟩) (Kd.R_far (p := ⟨gb513, 0, none⟩) (Kd.R_types HO511.out BK513.out (by decide)) (fun _ hk => by exact hk.2) (.int .i64 t505)) (fun _ hk => by exact hk.2) (.slice Ao20 t506.length co20)) (fun _ hk => by exact hk.2) (.slice Ao21 t509.length co21)) (fun _ h_ => h_.1))))) (below_size (by repeat ((with_reducible first | exact HB.out | refine below_set ?_ GE513.out))))); have n6_ := Aside0.mk (Kd.R_lower (Kd.R_new' (Kd.R_new' (Kd.R_new' (Kd.R_new' ho1 (Kd.Q_lt (by (with_reducible repeat (first | apply Kd.Q_alloc | apply Kd.Q_drewN | apply Kd.Q_drew)); exact (Kd.Q_mono (Kd.Q_far (p := ⟨gb513, 2, none⟩) (Kd.Q_far (p := ⟨gb513, 1, none⟩) (Kd.Q_far (p := ⟨gb513, 0, none⟩) (Kd.Q_types HO500.out BK513.out (by decide)) (fun _ hk => by exact hk.2) (.int .i64 t505)) (fun _ hk => by exact hk.2) (.slice Ao20 t506.length co20)) (fun _ hk => by exact hk.2) (.slice Ao21 t509.length co21)) (fun _ h_ => h_.1))))) (Kd.R_lt (by (with_reducible repeat (first | apply Kd.R_alloc | apply Kd.R_drewN | apply Kd.R_drew)); exact (Kd.R_mono (Kd.R_far (p := ⟨gb513, 2, none⟩) (Kd.R_far (p := ⟨gb513, 1, none⟩) (Kd.R_far (p := ⟨gb513, 0, none⟩) (Kd.R_types HO503.out BK513.out (by decide)) (fun _ hk => by exact hk.2) (.int .i64 t505)) (fun _ hk => by exact hk.2) (.slice Ao20 t506.length co20)) (fun _ hk => by exact hk.2) (.slice Ao21 t509.length co21)) (fun _ h_ => h_.1))))) (Kd.R_lt (by (with_reducible repeat (first | apply Kd.R_alloc | apply Kd.R_drewN | apply Kd.R_drew)); exact (Kd.R_mono (Kd.R_far (p := ⟨gb513, 2, none⟩) (Kd.R_far (p := ⟨gb513, 1, none⟩) (Kd.R_far (p := ⟨gb513, 0, none⟩) (Kd.R_types HO508.out BK513.out (by decide)) (fun _ hk => by exact hk.2) (.int .i64 t505)) (fun _ hk => by exact hk.2) (.slice Ao20 t506.length co20)) (fun _ hk => by exact hk.2) (.slice Ao21 t509.length co21)) (fun _ h_ => h_.1))))) (Kd.R_lt (by (with_reducible repeat (first | apply Kd.R_alloc | apply Kd.R_drewN | apply Kd.R_drew)); exact (Kd.R_mono (Kd.R_far (p := ⟨gb513, 2, none⟩) (Kd.R_far (p := ⟨gb513, 1, none⟩) (Kd.R_far (p := ⟨gb513, 0, none⟩) (Kd.R_types HO511.out BK513.out (by decide)) (fun _ hk => by exact hk.2) (.int .i64 t505)) (fun _ hk => by exact hk.2) (.slice Ao20 t506.length co20)) (fun _ hk => by exact hk.2) (.slice Ao21 t509.length co21)) (fun _ h_ => h_.1))))) (below_size (by repeat ((with_reducible first | exact HB.out | refine below_set ?_ GE513.out))))); have n7_ := Aside0.mk (blk_below (g := gb504) (o := .cells #[.int .i64 t497, .slice Ao13 t498.length co13, .slice Ao14 t501.length co14] 37 (0, 0)) (by (with_reducible repeat (first | refine blk_drewN ?_ _ | refine blk_drew ?_ | refine blk_alloc ?_ _)); refine blk_far ?_ NB504_513.out _; (with_reducible repeat (first | refine blk_drewN ?_ _ | refine blk_drew ?_ | refine blk_alloc ?_ _)); refine blk_far ?_ NB504_513.out _; (with_reducible repeat (first | refine blk_drewN ?_ _ | refine blk_drew ?_ | refine blk_alloc ?_ _)); refine blk_far ?_ NB504_513.out _; (with_reducible repeat (first | refine blk_drewN ?_ _ | refine blk_drew ?_ | refine blk_alloc ?_ _)); exact BK504.out) hb); have n8_ := Aside0.mk (blk_below (g := gb513) (o := .cells #[.int .i64 t505, .slice Ao20 t506.length co20, .slice Ao21 t509.length co21] 37 (0, 0)) (by (with_reducible repeat (first | refine blk_drewN ?_ _ | refine blk_drew ?_ | refine blk_alloc ?_ _)); refine blk_put (cs := #[.int .i64 t505, .slice Ao20 t506.length co20, .slice none 0 0]) ?_ 2 _ rfl; (with_reducible repeat (first | refine blk_drewN ?_ _ | refine blk_drew ?_ | refine blk_alloc ?_ _)); refine blk_put (cs := #[.int .i64 t505, .slice none 0 0, .slice none 0 0]) ?_ 1 _ rfl; (with_reducible repeat (first | refine blk_drewN ?_ _ | refine blk_drew ?_ | refine blk_alloc ?_ _)); refine blk_put (cs := #[.int .i64 0, .slice none 0 0, .slice none 0 0]) ?_ 0 _ rfl; (with_reducible repeat (first | refine blk_drewN ?_ _ | refine blk_drew ?_ | refine blk_alloc ?_ _)); exact BK513.out) hb); have n9_ := Aside0.mk (below_step (by repeat ((with_reducible first | exact HB.out | refine below_set ?_ GE513.out))) hb); clear HO495; clear HO500; clear HO503; clear HO508; clear HO511; clear BK504; clear BK513; clear HB; have HO495 := n0_; have HO500 := n1_; have HO503 := n2_; have HO508 := n3_; have HO511 := n4_; have HO517 := n5_; have HO520 := n6_; have BK504 := n7_; have BK513 := n8_; have HB := n9_; clear n0_ n1_ n2_ n3_ n4_ n5_ n6_ n7_ n8_ n9_; (try clear hb); (try clear hb2); (try clear hk); (try clear hi); (try clear ho0); (try clear ho1)) | ((with_reducible refine gate_dst (N := 8) rfl ?_); refine box_event ?hg (N := 8) ?hd (cs := #[.int .i64 0, .slice none 0 0, .slice none 0 0]) (t := 37) ?hr ?_; (case hd => rfl); (case hg => rfl); (case hr => (go_simp; done)); intro gb522 hg w23 hbox hb; have n0_ := Aside0.mk (Kd.R_below (by (with_reducible repeat (first | apply Kd.R_alloc | apply Kd.R_drewN | apply Kd.R_drew)); exact HO495.out) hb); have n1_ := Aside0.mk (Kd.Q_below (by (with_reducible repeat (first | apply Kd.Q_alloc | apply Kd.Q_drewN | apply Kd.Q_drew)); exact HO500.out) hb); have n2_ := Aside0.mk (Kd.R_below (by (with_reducible repeat (first | apply Kd.R_alloc | apply Kd.R_drewN | apply Kd.R_drew)); exact HO503.out) hb); have n3_ := Aside0.mk (Kd.R_below (by (with_reducible repeat (first | apply Kd.R_alloc | apply Kd.R_drewN | apply Kd.R_drew)); exact HO508.out) hb); have n4_ := Aside0.mk (Kd.R_below (by (with_reducible repeat (first | apply Kd.R_alloc | apply Kd.R_drewN | apply Kd.R_drew)); exact HO511.out) hb); have n5_ := Aside0.mk (Kd.R_below (by (with_reducible repeat (first | apply Kd.R_alloc | apply Kd.R_drewN | apply Kd.R_drew)); exact HO517.out) hb); have n6_ := Aside0.mk (Kd.R_below (by (with_reducible repeat (first | apply Kd.R_alloc | apply Kd.R_drewN | apply Kd.R_drew)); exact HO520.out) hb); have n7_ := Aside0.mk (blk_below (g := gb504) (o := .cells #[.int .i64 t497, .slice Ao13 t498.length co13, .slice Ao14 t501.length co14] 37 (0, 0)) (by (with_reducible repeat (first | refine blk_drewN ?_ _ | refine blk_drew ?_ | refine blk_alloc ?_ _)); exact BK504.out) hb); have n8_ := Aside0.mk (blk_below (g := gb513) (o := .cells #[.int .i64 t505, .slice Ao20 t506.length co20, .slice Ao21 t509.length co21] 37 (0, 0)) (by (with_reducible repeat (first | refine blk_drewN ?_ _ | refine blk_drew ?_ | refine blk_alloc ?_ _)); exact BK513.out) hb); have n9_ := Aside0.mk (below_step (by repeat ((with_reducible exact HB.out))) hb); have n10_ := Aside0.mk (hbox); have n11_ := Aside0.mk ((by rw [hg]; exact (below_size (by repeat ((with_reducible exact HB.out)))) : w.heap.size ≤ gb522)); have n12_ := Aside0.mk ((by rw [hg]; exact (below_size (by repeat ((with_reducible exact HB.out)))) : w.heap.size ≤ gb522)); have n13_ := Aside0.mk ((by rw [hg]; exact Nat.ne_of_lt (blk_lt (g := gb504) (o := .cells #[.int .i64 t497, .slice Ao13 t498.length co13, .slice Ao14 t501.length co14] 37 (0, 0)) (by (with_reducible repeat (first | refine blk_drewN ?_ _ | refine blk_drew ?_ | refine blk_alloc ?_ _)); exact BK504.out)) : gb504 ≠ gb522)); have n14_ := Aside0.mk ((by rw [hg]; exact Nat.ne_of_gt (blk_lt (g := gb504) (o := .cells #[.int .i64 t497, .slice Ao13 t498.length co13, .slice Ao14 t501.length co14] 37 (0, 0)) (by (with_reducible repeat (first | refine blk_drewN ?_ _ | refine blk_drew ?_ | refine blk_alloc ?_ _)); exact BK504.out)) : gb522 ≠ gb504)); have n15_ := Aside0.mk ((by rw [hg]; exact Nat.ne_of_lt (blk_lt (g := gb513) (o := .cells #[.int .i64 t505, .slice Ao20 t506.length co20, .slice Ao21 t509.length co21] 37 (0, 0)) (by (with_reducible repeat (first | refine blk_drewN ?_ _ | refine blk_drew ?_ | refine blk_alloc ?_ _)); exact BK513.out)) : gb513 ≠ gb522)); have n16_ := Aside0.mk ((by rw [hg]; exact Nat.ne_of_gt (blk_lt (g := gb513) (o := .cells #[.int .i64 t505, .slice Ao20 t506.length co20, .slice Ao21 t509.length co21] 37 (0, 0)) (by (with_reducible repeat (first | refine blk_drewN ?_ _ | refine blk_drew ?_ | refine blk_alloc ?_ _)); exact BK513.out)) : gb522 ≠ gb513)); clear HO495; clear HO500; clear HO503; clear HO508; clear HO511; clear HO517; clear HO520; clear BK504; clear BK513; clear HB; have HO495 := n0_; have HO500 := n1_; have HO503 := n2_; have HO508 := n3_; have HO511 := n4_; have HO517 := n5_; have HO520 := n6_; have BK504 := n7_; have BK513 := n8_; have HB := n9_; have BK522 := n10_; have GW522 := n11_; have GE522 := n12_; have NB504_522 := n13_; have NB522_504 := n14_; have NB513_522 := n15_; have NB522_513 := n16_; clear n0_ n1_ n2_ n3_ n4_ n5_ n6_ n7_ n8_ n9_ n10_ n11_ n12_ n13_ n14_ n15_ n16_; clear hb hbox hg; have hnb24 := NB522_504.out; have hnc24 := NB504_522.out; have hnb25 := NB522_513.out; have hnc25 := NB513_522.out; have hcz26_0 : w23.cell? ⟨gb522, 0, none⟩ = some (.int .i64 0) := (blk_cell BK522.out 0).trans rfl; have hcz26_1 : w23.cell? ⟨gb522, 1, none⟩ = some (.slice none 0 0) := (blk_cell BK522.out 1).trans rfl; have hcz26_2 : w23.cell? ⟨gb522, 2, none⟩ = some (.slice none 0 0) := (blk_cell BK522.out 2).trans rfl; have hfz26_0 := blk_frozen BK522.out 0; have hfz26_1 := blk_frozen BK522.out 1; have hfz26_2 := blk_frozen BK522.out 2; obtain ⟨Ao27, co27, eo27⟩ := Kd.R_slice HO517.out; subst eo27; obtain ⟨Ao28, co28, eo28⟩ := Kd.R_slice HO520.out; subst eo28))
    (try simp only [Act.put, List.setIfInBounds_toArray, List.set_cons_zero, List.set_cons_succ])
    go_cut [37] (fun v37 wc => ∃ (kq : Nat) (x37_7 : Bool), v37 = .bool x37_7 ∧ Aside0 (laws_FnBatch.j0 kq t493 t496 t512 t521 x37_7 t514 t515 t518 = some r) ∧ Aside0 (kq ≤ k) ∧ Aside0 (Kd.R Kd.string 9 wc w.heap.size (fun _ => True) (.slice Ao15 t493.length co15) t493) ∧ Aside0 (Kd.Q (Kd.int .u64) 30 wc w.heap.size (fun k_ => some k_ ≠ ((.slice Ao14 t501.length co14) : Value).ownBlock ∧ some k_ ≠ ((.slice Ao20 t506.length co20) : Value).ownBlock ∧ some k_ ≠ ((.slice Ao21 t509.length co21) : Value).ownBlock ∧ some k_ ≠ ((.slice Ao27 t515.length co27) : Value).ownBlock ∧ some k_ ≠ ((.slice Ao28 t518.length co28) : Value).ownBlock) (.slice Ao13 t498.length co13) t498) ∧ Aside0 (Kd.R (Kd.int .u64) 30 wc w.heap.size (fun k_ => some k_ ≠ ((.slice Ao13 t498.length co13) : Value).ownBlock ∧ some k_ ≠ ((.slice Ao20 t506.length co20) : Value).ownBlock ∧ some k_ ≠ ((.slice Ao21 t509.length co21) : Value).ownBlock ∧ some k_ ≠ ((.slice Ao27 t515.length co27) : Value).ownBlock ∧ some k_ ≠ ((.slice Ao28 t518.length co28) : Value).ownBlock) (.slice Ao14 t501.length co14) t501) ∧ Aside0 (Kd.Q (Kd.int .u64) 30 wc w.heap.size (fun k_ => some k_ ≠ ((.slice Ao13 t498.length co13) : Value).ownBlock ∧ some k_ ≠ ((.slice Ao14 t501.length co14) : Value).ownBlock ∧ some k_ ≠ ((.slice Ao21 t509.length co21) : Value).ownBlock ∧ some k_ ≠ ((.slice Ao27 t515.length co27) : Value).ownBlock ∧ some k_ ≠ ((.slice Ao28 t518.length co28) : Value).ownBlock) (.slice Ao20 t506.length co20) t506) ∧ Aside0 (Kd.R (Kd.int .u64) 30 wc w.heap.size (fun k_ => some k_ ≠ ((.slice Ao13 t498.length co13) : Value).ownBlock ∧ some k_ ≠ ((.slice Ao14 t501.length co14) : Value).ownBlock ∧ some k_ ≠ ((.slice Ao20 t506.length co20) : Value).ownBlock ∧ some k_ ≠ ((.slice Ao27 t515.length co27) : Value).ownBlock ∧ some k_ ≠ ((.slice Ao28 t518.length co28) : Value).ownBlock) (.slice Ao21 t509.length co21) t509) ∧ Aside0 (Kd.Q (Kd.int .u64) 30 wc w.heap.size (fun k_ => some k_ ≠ ((.slice Ao13 t498.length co13) : Value).ownBlock ∧ some k_ ≠ ((.slice Ao14 t501.length co14) : Value).ownBlock ∧ some k_ ≠ ((.slice Ao20 t506.length co20) : Value).ownBlock ∧ some k_ ≠ ((.slice Ao21 t509.length co21) : Value).ownBlock ∧ some k_ ≠ ((.slice Ao28 t518.length co28) : Value).ownBlock) (.slice Ao27 t515.length co27) t515) ∧ Aside0 (Kd.R (Kd.int .u64) 30 wc w.heap.size (fun k_ => some k_ ≠ ((.slice Ao13 t498.length co13) : Value).ownBlock ∧ some k_ ≠ ((.slice Ao14 t501.length co14) : Value).ownBlock ∧ some k_ ≠ ((.slice Ao20 t506.length co20) : Value).ownBlock ∧ some k_ ≠ ((.slice Ao21 t509.length co21) : Value).ownBlock ∧ some k_ ≠ ((.slice Ao27 t515.length co27) : Value).ownBlock) (.slice Ao28 t518.length co28) t518) ∧ Aside0 (wc.heap[gb504]? = some (.cells #[.int .i64 t497, (.slice Ao13 t498.length co13), (.slice Ao14 t501.length co14)] 37 (0, 0))) ∧ Aside0 (wc.heap[gb513]? = some (.cells #[.int .i64 t505, (.slice Ao20 t506.length co20), (.slice Ao21 t509.length co21)] 37 (0, 0))) ∧ Aside0 (wc.heap[gb522]? = some (.cells #[.int .i64 t514, (.slice Ao27 t515.length co27), (.slice Ao28 t518.length co28)] 37 (0, 0))) ∧ Aside0 (Below w.heap.size w wc))
    case first =>
      have H := HC8.out
      clear HC8
      by_cases c29 : (t521 != t512) = true
      · rw [if_pos c29] at H
        have c29b0 : (t521 != t512) = true := c29
        (try (have c29b1 : decide (t521 = t512) = false := by simpa using c29))
        (try (have c29b2 : (t521 == t512) = false := by simpa using c29))
        (try (have c29b3 : ¬ (t521 = t512) := by simpa using c29))
        clear c29
        (skip)
        have H' := Aside0.mk H
        clear H
        go_wp2
        go_meet
        case rel => exact ⟨_, (true), (by rfl), H', ⟨by omega⟩, ⟨by (with_reducible repeat (first | apply Kd.R_alloc | apply Kd.R_drewN | apply Kd.R_drew)); exact Kd.R_mono (Kd.R_far (p := ⟨gb522, 2, none⟩) (Kd.R_far (p := ⟨gb522, 1, none⟩) (Kd.R_far (p := ⟨gb522, 0, none⟩) (Kd.R_types HO495.out BK522.out (by decide)) (fun _ hk => by exact hk.2) (.int .i64 t514)) (fun _ hk => by exact hk.2) (.slice Ao27 t515.length co27)) (fun _ hk => by exact hk.2) (.slice Ao28 t518.length co28)) (fun _ hk => trivial)⟩, ⟨by (with_reducible repeat (first | apply Kd.Q_alloc | apply Kd.Q_drewN | apply Kd.Q_drew)); exact Kd.Q_mono (Kd.Q_far (p := ⟨gb522, 2, none⟩) (Kd.Q_far (p := ⟨gb522, 1, none⟩) (Kd.Q_far (p := ⟨gb522, 0, none⟩) (Kd.Q_types HO500.out BK522.out (by decide)) (fun _ hk => by exact hk.2) (.int .i64 t514)) (fun _ hk => by exact hk.2) (.slice Ao27 t515.length co27)) (fun _ hk => by exact hk.2) (.slice Ao28 t518.length co28)) (fun _ hk => ⟨hk.1.1.1.1.1, ⟨hk.1.1.1.1.2, ⟨hk.1.1.1.2, ⟨hk.1.1.2, hk.1.2⟩⟩⟩⟩)⟩, ⟨by (with_reducible repeat (first | apply Kd.R_alloc | apply Kd.R_drewN | apply Kd.R_drew)); exact Kd.R_mono (Kd.R_far (p := ⟨gb522, 2, none⟩) (Kd.R_far (p := ⟨gb522, 1, none⟩) (Kd.R_far (p := ⟨gb522, 0, none⟩) (Kd.R_types HO503.out BK522.out (by decide)) (fun _ hk => by exact hk.2) (.int .i64 t514)) (fun _ hk => by exact hk.2) (.slice Ao27 t515.length co27)) (fun _ hk => by exact hk.2) (.slice Ao28 t518.length co28)) (fun _ hk => ⟨hk.1.1.1.1.1, ⟨hk.1.1.1.1.2, ⟨hk.1.1.1.2, ⟨hk.1.1.2, hk.1.2⟩⟩⟩⟩)⟩, ⟨Kd.Q_of_R (by (with_reducible repeat (first | apply Kd.R_alloc | apply Kd.R_drewN | apply Kd.R_drew)); exact Kd.R_mono (Kd.R_far (p := ⟨gb522, 2, none⟩) (Kd.R_far (p := ⟨gb522, 1, none⟩) (Kd.R_far (p := ⟨gb522, 0, none⟩) (Kd.R_types HO508.out BK522.out (by decide)) (fun _ hk => by exact hk.2) (.int .i64 t514)) (fun _ hk => by exact hk.2) (.slice Ao27 t515.length co27)) (fun _ hk => by exact hk.2) (.slice Ao28 t518.length co28)) (fun _ hk => ⟨hk.1.1.1.1.2, ⟨hk.1.1.1.2, ⟨hk.1.1.1.1.1, ⟨hk.1.1.2, hk.1.2⟩⟩⟩⟩))⟩, ⟨by (with_reducible repeat (first | apply Kd.R_alloc | apply Kd.R_drewN | apply Kd.R_drew)); exact Kd.R_mono (Kd.R_far (p := ⟨gb522, 2, none⟩) (Kd.R_far (p := ⟨gb522, 1, none⟩) (Kd.R_far (p := ⟨gb522, 0, none⟩) (Kd.R_types HO511.out BK522.out (by decide)) (fun _ hk => by exact hk.2) (.int .i64 t514)) (fun _ hk => by exact hk.2) (.slice Ao27 t515.length co27)) (fun _ hk => by exact hk.2) (.slice Ao28 t518.length co28)) (fun _ hk => ⟨hk.1.1.1.1.2, ⟨hk.1.1.1.2, ⟨hk.1.1.1.1.1, ⟨hk.1.1.2, hk.1.2⟩⟩⟩⟩)⟩, ⟨Kd.Q_of_R (by (with_reducible repeat (first | apply Kd.R_alloc | apply Kd.R_drewN | apply Kd.R_drew)); exact Kd.R_mono (Kd.R_far (p := ⟨gb522, 2, none⟩) (Kd.R_far (p := ⟨gb522, 1, none⟩) (Kd.R_far (p := ⟨gb522, 0, none⟩) (Kd.R_types HO517.out BK522.out (by decide)) (fun _ hk => by exact hk.2) (.int .i64 t514)) (fun _ hk => by exact hk.2) (.slice Ao27 t515.length co27)) (fun _ hk => by exact hk.2) (.slice Ao28 t518.length co28)) (fun _ hk => ⟨hk.1.1.1.1.2, ⟨hk.1.1.1.2, ⟨hk.1.1.2, ⟨hk.1.2, hk.1.1.1.1.1⟩⟩⟩⟩))⟩, ⟨by (with_reducible repeat (first | apply Kd.R_alloc | apply Kd.R_drewN | apply Kd.R_drew)); exact Kd.R_mono (Kd.R_far (p := ⟨gb522, 2, none⟩) (Kd.R_far (p := ⟨gb522, 1, none⟩) (Kd.R_far (p := ⟨gb522, 0, none⟩) (Kd.R_types HO520.out BK522.out (by decide)) (fun _ hk => by exact hk.2) (.int .i64 t514)) (fun _ hk => by exact hk.2) (.slice Ao27 t515.length co27)) (fun _ hk => by exact hk.2) (.slice Ao28 t518.length co28)) (fun _ hk => ⟨hk.1.1.1.1.2, ⟨hk.1.1.1.2, ⟨hk.1.1.2, ⟨hk.1.2, hk.1.1.1.1.1⟩⟩⟩⟩)⟩, ⟨by (with_reducible repeat (first | refine blk_drewN ?_ _ | refine blk_drew ?_ | refine blk_alloc ?_ _)); refine blk_far ?_ NB504_522.out _; (with_reducible repeat (first | refine blk_drewN ?_ _ | refine blk_drew ?_ | refine blk_alloc ?_ _)); refine blk_far ?_ NB504_522.out _; (with_reducible repeat (first | refine blk_drewN ?_ _ | refine blk_drew ?_ | refine blk_alloc ?_ _)); refine blk_far ?_ NB504_522.out _; (with_reducible repeat (first | refine blk_drewN ?_ _ | refine blk_drew ?_ | refine blk_alloc ?_ _)); exact BK504.out⟩, ⟨by (with_reducible repeat (first | refine blk_drewN ?_ _ | refine blk_drew ?_ | refine blk_alloc ?_ _)); refine blk_far ?_ NB513_522.out _; (with_reducible repeat (first | refine blk_drewN ?_ _ | refine blk_drew ?_ | refine blk_alloc ?_ _)); refine blk_far ?_ NB513_522.out _; (with_reducible repeat (first | refine blk_drewN ?_ _ | refine blk_drew ?_ | refine blk_alloc ?_ _)); refine blk_far ?_ NB513_522.out _; (with_reducible repeat (first | refine blk_drewN ?_ _ | refine blk_drew ?_ | refine blk_alloc ?_ _)); exact BK513.out⟩, ⟨by (with_reducible repeat (first | refine blk_drewN ?_ _ | refine blk_drew ?_ | refine blk_alloc ?_ _)); refine blk_put (cs := #[.int .i64 t514, .slice Ao27 t515.length co27, .slice none 0 0]) ?_ 2 _ rfl; (with_reducible repeat (first | refine blk_drewN ?_ _ | refine blk_drew ?_ | refine blk_alloc ?_ _)); refine blk_put (cs := #[.int .i64 t514, .slice none 0 0, .slice none 0 0]) ?_ 1 _ rfl; (with_reducible repeat (first | refine blk_drewN ?_ _ | refine blk_drew ?_ | refine blk_alloc ?_ _)); refine blk_put (cs := #[.int .i64 0, .slice none 0 0, .slice none 0 0]) ?_ 0 _ rfl; (with_reducible repeat (first | refine blk_drewN ?_ _ | refine blk_drew ?_ | refine blk_alloc ?_ _)); exact BK522.out⟩, ⟨by repeat ((with_reducible first | exact HB.out | refine below_set ?_ GE522.out))⟩⟩
      · rw [if_neg c29] at H
        have c29b0 : (t521 != t512) = false := by simpa using c29
        (try (have c29b1 : decide (t521 = t512) = true := by simpa using c29))
        (try (have c29b2 : (t521 == t512) = true := by simpa using c29))
        clear c29
        (skip)
        have H' := Aside0.mk H
        clear H
        go_wp2
        go_meet
        case rel => exact ⟨_, (!t521), (by rfl), H', ⟨by omega⟩, ⟨by (with_reducible repeat (first | apply Kd.R_alloc | apply Kd.R_drewN | apply Kd.R_drew)); exact Kd.R_mono (Kd.R_far (p := ⟨gb522, 2, none⟩) (Kd.R_far (p := ⟨gb522, 1, none⟩) (Kd.R_far (p := ⟨gb522, 0, none⟩) (Kd.R_types HO495.out BK522.out (by decide)) (fun _ hk => by exact hk.2) (.int .i64 t514)) (fun _ hk => by exact hk.2) (.slice Ao27 t515.length co27)) (fun _ hk => by exact hk.2) (.slice Ao28 t518.length co28)) (fun _ hk => trivial)⟩, ⟨by (with_reducible repeat (first | apply Kd.Q_alloc | apply Kd.Q_drewN | apply Kd.Q_drew)); exact Kd.Q_mono (Kd.Q_far (p := ⟨gb522, 2, none⟩) (Kd.Q_far (p := ⟨gb522, 1, none⟩) (Kd.Q_far (p := ⟨gb522, 0, none⟩) (Kd.Q_types HO500.out BK522.out (by decide)) (fun _ hk => by exact hk.2) (.int .i64 t514)) (fun _ hk => by exact hk.2) (.slice Ao27 t515.length co27)) (fun _ hk => by exact hk.2) (.slice Ao28 t518.length co28)) (fun _ hk => ⟨hk.1.1.1.1.1, ⟨hk.1.1.1.1.2, ⟨hk.1.1.1.2, ⟨hk.1.1.2, hk.1.2⟩⟩⟩⟩)⟩, ⟨by (with_reducible repeat (first | apply Kd.R_alloc | apply Kd.R_drewN | apply Kd.R_drew)); exact Kd.R_mono (Kd.R_far (p := ⟨gb522, 2, none⟩) (Kd.R_far (p := ⟨gb522, 1, none⟩) (Kd.R_far (p := ⟨gb522, 0, none⟩) (Kd.R_types HO503.out BK522.out (by decide)) (fun _ hk => by exact hk.2) (.int .i64 t514)) (fun _ hk => by exact hk.2) (.slice Ao27 t515.length co27)) (fun _ hk => by exact hk.2) (.slice Ao28 t518.length co28)) (fun _ hk => ⟨hk.1.1.1.1.1, ⟨hk.1.1.1.1.2, ⟨hk.1.1.1.2, ⟨hk.1.1.2, hk.1.2⟩⟩⟩⟩)⟩, ⟨Kd.Q_of_R (by (with_reducible repeat (first | apply Kd.R_alloc | apply Kd.R_drewN | apply Kd.R_drew)); exact Kd.R_mono (Kd.R_far (p := ⟨gb522, 2, none⟩) (Kd.R_far (p := ⟨gb522, 1, none⟩) (Kd.R_far (p := ⟨gb522, 0, none⟩) (Kd.R_types HO508.out BK522.out (by decide)) (fun _ hk => by exact hk.2) (.int .i64 t514)) (fun _ hk => by exact hk.2) (.slice Ao27 t515.length co27)) (fun _ hk => by exact hk.2) (.slice Ao28 t518.length co28)) (fun _ hk => ⟨hk.1.1.1.1.2, ⟨hk.1.1.1.2, ⟨hk.1.1.1.1.1, ⟨hk.1.1.2, hk.1.2⟩⟩⟩⟩))⟩, ⟨by (with_reducible repeat (first | apply Kd.R_alloc | apply Kd.R_drewN | apply Kd.R_drew)); exact Kd.R_mono (Kd.R_far (p := ⟨gb522, 2, none⟩) (Kd.R_far (p := ⟨gb522, 1, none⟩) (Kd.R_far (p := ⟨gb522, 0, none⟩) (Kd.R_types HO511.out BK522.out (by decide)) (fun _ hk => by exact hk.2) (.int .i64 t514)) (fun _ hk => by exact hk.2) (.slice Ao27 t515.length co27)) (fun _ hk => by exact hk.2) (.slice Ao28 t518.length co28)) (fun _ hk => ⟨hk.1.1.1.1.2, ⟨hk.1.1.1.2, ⟨hk.1.1.1.1.1, ⟨hk.1.1.2, hk.1.2⟩⟩⟩⟩)⟩, ⟨Kd.Q_of_R (by (with_reducible repeat (first | apply Kd.R_alloc | apply Kd.R_drewN | apply Kd.R_drew)); exact Kd.R_mono (Kd.R_far (p := ⟨gb522, 2, none⟩) (Kd.R_far (p := ⟨gb522, 1, none⟩) (Kd.R_far (p := ⟨gb522, 0, none⟩) (Kd.R_types HO517.out BK522.out (by decide)) (fun _ hk => by exact hk.2) (.int .i64 t514)) (fun _ hk => by exact hk.2) (.slice Ao27 t515.length co27)) (fun _ hk => by exact hk.2) (.slice Ao28 t518.length co28)) (fun _ hk => ⟨hk.1.1.1.1.2, ⟨hk.1.1.1.2, ⟨hk.1.1.2, ⟨hk.1.2, hk.1.1.1.1.1⟩⟩⟩⟩))⟩, ⟨by (with_reducible repeat (first | apply Kd.R_alloc | apply Kd.R_drewN | apply Kd.R_drew)); exact Kd.R_mono (Kd.R_far (p := ⟨gb522, 2, none⟩) (Kd.R_far (p := ⟨gb522, 1, none⟩) (Kd.R_far (p := ⟨gb522, 0, none⟩) (Kd.R_types HO520.out BK522.out (by decide)) (fun _ hk => by exact hk.2) (.int .i64 t514)) (fun _ hk => by exact hk.2) (.slice Ao27 t515.length co27)) (fun _ hk => by exact hk.2) (.slice Ao28 t518.length co28)) (fun _ hk => ⟨hk.1.1.1.1.2, ⟨hk.1.1.1.2, ⟨hk.1.1.2, ⟨hk.1.2, hk.1.1.1.1.1⟩⟩⟩⟩)⟩, ⟨by (with_reducible repeat (first | refine blk_drewN ?_ _ | refine blk_drew ?_ | refine blk_alloc ?_ _)); refine blk_far ?_ NB504_522.out _; (with_reducible repeat (first | refine blk_drewN ?_ _ | refine blk_drew ?_ | refine blk_alloc ?_ _)); refine blk_far ?_ NB504_522.out _; (with_reducible repeat (first | refine blk_drewN ?_ _ | refine blk_drew ?_ | refine blk_alloc ?_ _)); refine blk_far ?_ NB504_522.out _; (with_reducible repeat (first | refine blk_drewN ?_ _ | refine blk_drew ?_ | refine blk_alloc ?_ _)); exact BK504.out⟩, ⟨by (with_reducible repeat (first | refine blk_drewN ?_ _ | refine blk_drew ?_ | refine blk_alloc ?_ _)); refine blk_far ?_ NB513_522.out _; (with_reducible repeat (first | refine blk_drewN ?_ _ | refine blk_drew ?_ | refine blk_alloc ?_ _)); refine blk_far ?_ NB513_522.out _; (with_reducible repeat (first | refine blk_drewN ?_ _ | refine blk_drew ?_ | refine blk_alloc ?_ _)); refine blk_far ?_ NB513_522.out _; (with_reducible repeat (first | refine blk_drewN ?_ _ | refine blk_drew ?_ | refine blk_alloc ?_ _)); exact BK513.out⟩, ⟨by (with_reducible repeat (first | refine blk_drewN ?_ _ | refine blk_drew ?_ | refine blk_alloc ?_ _)); refine blk_put (cs := #[.int .i64 t514, .slice Ao27 t515.length co27, .slice none 0 0]) ?_ 2 _ rfl; (with_reducible repeat (first | refine blk_drewN ?_ _ | refine blk_drew ?_ | refine blk_alloc ?_ _)); refine blk_put (cs := #[.int .i64 t514, .slice none 0 0, .slice none 0 0]) ?_ 1 _ rfl; (with_reducible repeat (first | refine blk_drewN ?_ _ | refine blk_drew ?_ | refine blk_alloc ?_ _)); refine blk_put (cs := #[.int .i64 0, .slice none 0 0, .slice none 0 0]) ?_ 0 _ rfl; (with_reducible repeat (first | refine blk_drewN ?_ _ | refine blk_drew ?_ | refine blk_alloc ?_ _)); exact BK522.out⟩, ⟨by repeat ((with_reducible first | exact HB.out | refine below_set ?_ GE522.out))⟩⟩
    case rest =>
      clear HC8
      try clear c1
      try clear c2
      try clear p2
      try clear c3
      try clear c8
      try clear c9
      try clear c18
      try clear c20
      try clear c24
      try clear c25
      try clear c29
      try clear c29b0
      try clear c29b1
      try clear c29b2
      try clear hcz12_0
      try clear hcz12_1
      try clear hcz12_2
      try clear hcz19_0
      try clear hcz19_1
      try clear hcz19_2
      try clear hcz26_0
      try clear hcz26_1
      try clear hcz26_2
      try clear hfz12_0
      try clear hfz12_1
      try clear hfz12_2
      try clear hfz19_0
      try clear hfz19_1
      try clear hfz19_2
      try clear hfz26_0
      try clear hfz26_1
      try clear hfz26_2
      obtain ⟨kq, x37_7, rfl, HA, HJ7, HO_3, HO_505001, HO_505002, HO_514001, HO_514002, HO_523001, HO_523002, BK504, BK513, BK522, HB⟩ := hcut
      cases kq with
      | zero => exact absurd HA.out (by simp [laws_FnBatch.j0])
      | succ kj7 =>
        have H := HA.out
        clear HA
        simp only [laws_FnBatch.j0] at H
        by_cases c30 : x37_7 = true
        · subst c30
          have H1 : (some (t521 == t512)) = some r := by rw [if_pos rfl] at H; exact H
          clear H
          have H := H1
          clear H1
          obtain rfl := Option.some.inj H
          go_wp2
          go_ret
          exact ⟨by rfl, by repeat ((with_reducible exact HB.out))⟩
        · replace c30 := Bool.eq_false_iff.mpr c30
          subst c30
          have H1 : ((impl_PlanesWords.f kj7 t514 t515 t518).bind fun t523 => ((laws_sameWords.f kj7 t523 t493).bind fun t526 => (if t526 = true then ((impl_PlanesOk.f kj7 t514 t515 t518).bind fun t527 => (laws_FnBatch.j1 kj7 t493 t496 (!t527) t514 t515 t518)) else (laws_FnBatch.j1 kj7 t493 t496 true t514 t515 t518)))) = some r := by rw [if_neg (show ¬ (false = true) by decide)] at H; exact H
          clear H
          have H := H1
          clear H1
          have HC31 := Aside0.mk H
          clear H
          go_upto_region 9 with (fail)
          go_cut [50] (fun v50 wc => ∃ (kq : Nat) (x50_30 : Bool), v50 = .bool x50_30 ∧ Aside0 (laws_FnBatch.j1 kq t493 t496 x50_30 t514 t515 t518 = some r) ∧ Aside0 (kq ≤ kj7) ∧ Aside0 (Kd.R Kd.string 9 wc w.heap.size (fun _ => True) (.slice Ao15 t493.length co15) t493) ∧ Aside0 (Kd.Q (Kd.int .u64) 30 wc w.heap.size (fun k_ => some k_ ≠ ((.slice Ao14 t501.length co14) : Value).ownBlock ∧ some k_ ≠ ((.slice Ao20 t506.length co20) : Value).ownBlock ∧ some k_ ≠ ((.slice Ao21 t509.length co21) : Value).ownBlock ∧ some k_ ≠ ((.slice Ao27 t515.length co27) : Value).ownBlock ∧ some k_ ≠ ((.slice Ao28 t518.length co28) : Value).ownBlock) (.slice Ao13 t498.length co13) t498) ∧ Aside0 (Kd.R (Kd.int .u64) 30 wc w.heap.size (fun k_ => some k_ ≠ ((.slice Ao13 t498.length co13) : Value).ownBlock ∧ some k_ ≠ ((.slice Ao20 t506.length co20) : Value).ownBlock ∧ some k_ ≠ ((.slice Ao21 t509.length co21) : Value).ownBlock ∧ some k_ ≠ ((.slice Ao27 t515.length co27) : Value).ownBlock ∧ some k_ ≠ ((.slice Ao28 t518.length co28) : Value).ownBlock) (.slice Ao14 t501.length co14) t501) ∧ Aside0 (Kd.Q (Kd.int .u64) 30 wc w.heap.size (fun k_ => some k_ ≠ ((.slice Ao13 t498.length co13) : Value).ownBlock ∧ some k_ ≠ ((.slice Ao14 t501.length co14) : Value).ownBlock ∧ some k_ ≠ ((.slice Ao21 t509.length co21) : Value).ownBlock ∧ some k_ ≠ ((.slice Ao27 t515.length co27) : Value).ownBlock ∧ some k_ ≠ ((.slice Ao28 t518.length co28) : Value).ownBlock) (.slice Ao20 t506.length co20) t506) ∧ Aside0 (Kd.R (Kd.int .u64) 30 wc w.heap.size (fun k_ => some k_ ≠ ((.slice Ao13 t498.length co13) : Value).ownBlock ∧ some k_ ≠ ((.slice Ao14 t501.length co14) : Value).ownBlock ∧ some k_ ≠ ((.slice Ao20 t506.length co20) : Value).ownBlock ∧ some k_ ≠ ((.slice Ao27 t515.length co27) : Value).ownBlock ∧ some k_ ≠ ((.slice Ao28 t518.length co28) : Value).ownBlock) (.slice Ao21 t509.length co21) t509) ∧ Aside0 (Kd.Q (Kd.int .u64) 30 wc w.heap.size (fun k_ => some k_ ≠ ((.slice Ao13 t498.length co13) : Value).ownBlock ∧ some k_ ≠ ((.slice Ao14 t501.length co14) : Value).ownBlock ∧ some k_ ≠ ((.slice Ao20 t506.length co20) : Value).ownBlock ∧ some k_ ≠ ((.slice Ao21 t509.length co21) : Value).ownBlock ∧ some k_ ≠ ((.slice Ao28 t518.length co28) : Value).ownBlock) (.slice Ao27 t515.length co27) t515) ∧ Aside0 (Kd.R (Kd.int .u64) 30 wc w.heap.size (fun k_ => some k_ ≠ ((.slice Ao13 t498.length co13) : Value).ownBlock ∧ some k_ ≠ ((.slice Ao14 t501.length co14) : Value).ownBlock ∧ some k_ ≠ ((.slice Ao20 t506.length co20) : Value).ownBlock ∧ some k_ ≠ ((.slice Ao21 t509.length co21) : Value).ownBlock ∧ some k_ ≠ ((.slice Ao27 t515.length co27) : Value).ownBlock) (.slice Ao28 t518.length co28) t518) ∧ Aside0 (wc.heap[gb504]? = some (.cells #[.int .i64 t497, (.slice Ao13 t498.length co13), (.slice Ao14 t501.length co14)] 37 (0, 0))) ∧ Aside0 (wc.heap[gb513]? = some (.cells #[.int .i64 t505, (.slice Ao20 t506.length co20), (.slice Ao21 t509.length co21)] 37 (0, 0))) ∧ Aside0 (wc.heap[gb522]? = some (.cells #[.int .i64 t514, (.slice Ao27 t515.length co27), (.slice Ao28 t518.length co28)] 37 (0, 0))) ∧ Aside0 (Below w.heap.size w wc))
          case first =>
            have H := HC31.out
            clear HC31
            replace H := Option.bind_eq_some_iff.mp H
            obtain ⟨t523, A320, H⟩ := H
            replace H : ((laws_sameWords.f kj7 t523 t493).bind fun t526 => (if t526 = true then ((impl_PlanesOk.f kj7 t514 t515 t518).bind fun t527 => (laws_FnBatch.j1 kj7 t493 t496 (!t527) t514 t515 t518)) else (laws_FnBatch.j1 kj7 t493 t496 true t514 t515 t518))) = some r := H
            have A32 := Aside0.mk A320
            clear A320
            replace H := Option.bind_eq_some_iff.mp H
            obtain ⟨t526, A330, H⟩ := H
            replace H : (if t526 = true then ((impl_PlanesOk.f kj7 t514 t515 t518).bind fun t527 => (laws_FnBatch.j1 kj7 t493 t496 (!t527) t514 t515 t518)) else (laws_FnBatch.j1 kj7 t493 t496 true t514 t515 t518)) = some r := H
            have A33 := Aside0.mk A330
            clear A330
            by_cases c34 : t526 = true
            · subst c34
              have H1 : ((impl_PlanesOk.f kj7 t514 t515 t518).bind fun t527 => (laws_FnBatch.j1 kj7 t493 t496 (!t527) t514 t515 t518)) = some r := by rw [if_pos rfl] at H; exact H
              clear H
              have H := H1
              clear H1
              replace H := Option.bind_eq_some_iff.mp H
              obtain ⟨t527, A350, H⟩ := H
              replace H : (laws_FnBatch.j1 kj7 t493 t496 (!t527) t514 t515 t518) = some r := H
              have A35 := Aside0.mk A350
              clear A350
              have H' := Aside0.mk H
              clear H
              have hnb36 := NB522_504.out
              have hnc36 := NB504_522.out
              have hnb37 := NB522_513.out
              have hnc37 := NB513_522.out
              have hcz38_0 : wc.cell? ⟨gb522, 0, none⟩ = some (.int .i64 t514) := (blk_cell BK522.out 0).trans rfl
              have hcz38_1 : wc.cell? ⟨gb522, 1, none⟩ = some (.slice Ao27 t515.length co27) := (blk_cell BK522.out 1).trans rfl
              have hcz38_2 : wc.cell? ⟨gb522, 2, none⟩ = some (.slice Ao28 t518.length co28) := (blk_cell BK522.out 2).trans rfl
              have hfz38_0 := blk_frozen BK522.out 0
              have hfz38_1 := blk_frozen BK522.out 1
              have hfz38_2 := blk_frozen BK522.out 2
              go_wp2_with (first | ((with_reducible refine gate_callee (f := 31) rfl ?_); refine goesL_ (some 42) rfl rfl Try.func31 (by kernel_rfl) rfl #[.agg #[.int .i64 t514, .slice Ao27 t515.length co27, .slice Ao28 t518.length co28]] rfl (by (try simp only [List.map_toArray, List.map_cons, List.map_nil]); rfl) ?_; (with_reducible refine (impl_PlanesWords.calls kj7 t514 _ _ t515 _ _ t518 t523 _ ?side1 ?side2 ?side3 ?side4 A32.out).mono ?_); (case side1 => repeat (exact (Kd.Q_reads' HO_523001.out).2.2)); (case side2 => exact (Kd.Q_reads' HO_523001.out).2.1); (case side3 => repeat (exact (Kd.R_reads' HO_523002.out).2.2)); (case side4 => exact (Kd.R_reads' HO_523002.out).2.1); rintro e w39 ⟨v524, rfl, ho0, hb⟩; refine ⟨_, rfl, ?_⟩; have n0_ := Aside0.mk (Kd.R_elder' (by (with_reducible repeat (first | apply Kd.R_alloc | apply Kd.R_drewN | apply Kd.R_drew)); exact HO_3.out) (Kd.R_base ho0) hb); have n1_ := Aside0.mk (Kd.Q_below (by (with_reducible repeat (first | apply Kd.Q_alloc | apply Kd.Q_drewN | apply Kd.Q_drew)); exact HO_505001.out) hb); have n2_ := Aside0.mk (Kd.R_below (by (with_reducible repeat (first | apply Kd.R_alloc | apply Kd.R_drewN | apply Kd.R_drew)); exact HO_505002.out) hb); have n3_ := Aside0.mk (Kd.Q_below (by (with_reducible repeat (first | apply Kd.Q_alloc | apply Kd.Q_drewN | apply Kd.Q_drew)); exact HO_514001.out) hb); have n4_ := Aside0.mk (Kd.R_below (by (with_reducible repeat (first | apply Kd.R_alloc | apply Kd.R_drewN | apply Kd.R_drew)); exact HO_514002.out) hb); have n5_ := Aside0.mk (Kd.Q_below (by (with_reducible repeat (first | apply Kd.Q_alloc | apply Kd.Q_drewN | apply Kd.Q_drew)); exact HO_523001.out) hb); have n6_ := Aside0.mk (Kd.R_below (by (with_reducible repeat (first | apply Kd.R_alloc | apply Kd.R_drewN | apply Kd.R_drew)); exact HO_523002.out) hb); have n7_ := Aside0.mk (Kd.R_lower (Kd.R_new' ho0 (Kd.R_lt (by (with_reducible repeat (first | apply Kd.R_alloc | apply Kd.R_drewN | apply Kd.R_drew)); exact HO_3.out))) (below_size (by repeat ((with_reducible exact HB.out))))); have n8_ := Aside0.mk (blk_below (g := gb504) (o := .cells #[.int .i64 t497, .slice Ao13 t498.length co13, .slice Ao14 t501.length co14] 37 (0, 0)) (by (with_reducible repeat (first | refine blk_drewN ?_ _ | refine blk_drew ?_ | refine blk_alloc ?_ _)); exact BK504.out) hb); have n9_ := Aside0.mk (blk_below (g := gb513) (o := .cells #[.int .i64 t505, .slice Ao20 t506.length co20, .slice Ao21 t509.length co21] 37 (0, 0)) (by (with_reducible repeat (first | refine blk_drewN ?_ _ | refine blk_drew ?_ | refine blk_alloc ?_ _)); exact BK513.out) hb); have n10_ := Aside0.mk (blk_below (g := gb522) (o := .cells #[.int .i64 t514, .slice Ao27 t515.length co27, .slice Ao28 t518.length co28] 37 (0, 0)) (by (with_reducible repeat (first | refine blk_drewN ?_ _ | refine blk_drew ?_ | refine blk_alloc ?_ _)); exact BK522.out) hb); have n11_ := Aside0.mk (below_step (by repeat ((with_reducible exact HB.out))) hb); clear HO_3; clear HO_505001; clear HO_505002; clear HO_514001; clear HO_514002; clear HO_523001; clear HO_523002; clear BK504; clear BK513; clear BK522; clear HB; have HO_3 := n0_; have HO_505001 := n1_; have HO_505002 := n2_; have HO_514001 := n3_; have HO_514002 := n4_; have HO_523001 := n5_; have HO_523002 := n6_; have HO525 := n7_; have BK504 := n8_; have BK513 := n9_; have BK522 := n10_; have HB := n11_; clear n0_ n1_ n2_ n3_ n4_ n5_ n6_ n7_ n8_ n9_ n10_ n11_; (try clear hb); (try clear hb2); (try clear hk); (try clear hi); (try clear ho0); obtain ⟨Ao40, co40, eo40⟩ := Kd.R_slice HO525.out; subst eo40) | ((with_reducible refine gate_callee (f := 40) rfl ?_); refine goesL_ (some 44) rfl rfl Try.func40 (by kernel_rfl) rfl #[.slice Ao40 t523.length co40, .slice Ao15 t493.length co15] rfl (by (try simp only [List.map_toArray, List.map_cons, List.map_nil]); rfl) ?_; (with_reducible refine (laws_sameWords.calls kj7 _ _ t523 _ _ t493 true _ ?side1 ?side2 ?side3 ?side4 A33.out).mono ?_); (case side1 => repeat (exact (Kd.R_reads' HO525.out).2.2)); (case side2 => exact (Kd.R_reads' HO525.out).2.1); (case side3 => repeat (exact (Kd.R_reads' HO_3.out).2.2)); (case side4 => exact (Kd.R_reads' HO_3.out).2.1); rintro e w' ⟨rfl, ⟨nd, rfl⟩⟩; refine ⟨_, rfl, ?_⟩; have hcz41_0 : w39.cell? ⟨gb522, 0, none⟩ = some (.int .i64 t514) := (blk_cell BK522.out 0).trans rfl; have hcz41_1 : w39.cell? ⟨gb522, 1, none⟩ = some (.slice Ao27 t515.length co27) := (blk_cell BK522.out 1).trans rfl; have hcz41_2 : w39.cell? ⟨gb522, 2, none⟩ = some (.slice Ao28 t518.length co28) := (blk_cell BK522.out 2).trans rfl; have hfz41_0 := blk_frozen BK522.out 0; have hfz41_1 := blk_frozen BK522.out 1; have hfz41_2 := blk_frozen BK522.out 2) | (go_at_call 29; (with_reducible refine (impl_PlanesOk.calls kj7 t514 _ _ t515 _ _ t518 t527 _ ?side1 ?side2 ?side3 ?side4 A35.out).mono ?_); (case side1 => repeat (exact (Kd.Q_reads' HO_523001.out).2.2)); (case side2 => exact (Kd.Q_reads' HO_523001.out).2.1); (case side3 => repeat (exact (Kd.R_reads' HO_523002.out).2.2)); (case side4 => exact (Kd.R_reads' HO_523002.out).2.1); rintro e w42 ⟨rfl, hb⟩; have n0_ := Aside0.mk (Kd.R_below (by (with_reducible repeat (apply Kd.R_drewN)); exact HO_3.out) hb); have n1_ := Aside0.mk (Kd.Q_below (by (with_reducible repeat (apply Kd.Q_drewN)); exact HO_505001.out) hb); have n2_ := Aside0.mk (Kd.R_below (by (with_reducible repeat (apply Kd.R_drewN)); exact HO_505002.out) hb); have n3_ := Aside0.mk (Kd.Q_below (by (with_reducible repeat (apply Kd.Q_drewN)); exact HO_514001.out) hb); have n4_ := Aside0.mk (Kd.R_below (by (with_reducible repeat (apply Kd.R_drewN)); exact HO_514002.out) hb); have n5_ := Aside0.mk (Kd.Q_below (by (with_reducible repeat (apply Kd.Q_drewN)); exact HO_523001.out) hb); have n6_ := Aside0.mk (Kd.R_below (by (with_reducible repeat (apply Kd.R_drewN)); exact HO_523002.out) hb); have n7_ := Aside0.mk (Kd.R_below (by (with_reducible repeat (apply Kd.R_drewN)); exact HO525.out) hb); have n8_ := Aside0.mk (blk_below (g := gb504) (o := .cells #[.int .i64 t497, .slice Ao13 t498.length co13, .slice Ao14 t501.length co14] 37 (0, 0)) (by (with_reducible repeat (refine blk_drewN ?_ _)); exact BK504.out) hb); have n9_ := Aside0.mk (blk_below (g := gb513) (o := .cells #[.int .i64 t505, .slice Ao20 t506.length co20, .slice Ao21 t509.length co21] 37 (0, 0)) (by (with_reducible repeat (refine blk_drewN ?_ _)); exact BK513.out) hb); have n10_ := Aside0.mk (blk_below (g := gb522) (o := .cells #[.int .i64 t514, .slice Ao27 t515.length co27, .slice Ao28 t518.length co28] 37 (0, 0)) (by (with_reducible repeat (refine blk_drewN ?_ _)); exact BK522.out) hb); have n11_ := Aside0.mk (below_step (by repeat ((with_reducible first | exact HB.out | apply pw_below_drewN))) hb); clear HO_3; clear HO_505001; clear HO_505002; clear HO_514001; clear HO_514002; clear HO_523001; clear HO_523002; clear HO525; clear BK504; clear BK513; clear BK522; clear HB; have HO_3 := n0_; have HO_505001 := n1_; have HO_505002 := n2_; have HO_514001 := n3_; have HO_514002 := n4_; have HO_523001 := n5_; have HO_523002 := n6_; have HO525 := n7_; have BK504 := n8_; have BK513 := n9_; have BK522 := n10_; have HB := n11_; clear n0_ n1_ n2_ n3_ n4_ n5_ n6_ n7_ n8_ n9_ n10_ n11_; (try clear hb); (try clear hb2); (try clear hk); (try clear hi)))
              go_meet
              case rel => exact ⟨_, (!t527), (by rfl), H', ⟨by have := HJ7.out; omega⟩, ⟨by (with_reducible repeat (first | apply Kd.R_alloc | apply Kd.R_drewN | apply Kd.R_drew)); exact Kd.R_mono HO_3.out (fun _ hk => trivial)⟩, ⟨by (with_reducible repeat (first | apply Kd.Q_alloc | apply Kd.Q_drewN | apply Kd.Q_drew)); exact HO_505001.out⟩, ⟨by (with_reducible repeat (first | apply Kd.R_alloc | apply Kd.R_drewN | apply Kd.R_drew)); exact HO_505002.out⟩, ⟨by (with_reducible repeat (first | apply Kd.Q_alloc | apply Kd.Q_drewN | apply Kd.Q_drew)); exact HO_514001.out⟩, ⟨by (with_reducible repeat (first | apply Kd.R_alloc | apply Kd.R_drewN | apply Kd.R_drew)); exact HO_514002.out⟩, ⟨by (with_reducible repeat (first | apply Kd.Q_alloc | apply Kd.Q_drewN | apply Kd.Q_drew)); exact HO_523001.out⟩, ⟨by (with_reducible repeat (first | apply Kd.R_alloc | apply Kd.R_drewN | apply Kd.R_drew)); exact HO_523002.out⟩, ⟨by (with_reducible repeat (first | refine blk_drewN ?_ _ | refine blk_drew ?_ | refine blk_alloc ?_ _)); exact BK504.out⟩, ⟨by (with_reducible repeat (first | refine blk_drewN ?_ _ | refine blk_drew ?_ | refine blk_alloc ?_ _)); exact BK513.out⟩, ⟨by (with_reducible repeat (first | refine blk_drewN ?_ _ | refine blk_drew ?_ | refine blk_alloc ?_ _)); exact BK522.out⟩, ⟨by repeat ((with_reducible exact HB.out))⟩⟩
            · replace c34 := Bool.eq_false_iff.mpr c34
              subst c34
              have H1 : (laws_FnBatch.j1 kj7 t493 t496 true t514 t515 t518) = some r := by rw [if_neg (show ¬ (false = true) by decide)] at H; exact H
              clear H
              have H := H1
              clear H1
              have H' := Aside0.mk H
              clear H
              have hnb43 := NB522_504.out
              have hnc43 := NB504_522.out
              have hnb44 := NB522_513.out
              have hnc44 := NB513_522.out
              have hcz45_0 : wc.cell? ⟨gb522, 0, none⟩ = some (.int .i64 t514) := (blk_cell BK522.out 0).trans rfl
              have hcz45_1 : wc.cell? ⟨gb522, 1, none⟩ = some (.slice Ao27 t515.length co27) := (blk_cell BK522.out 1).trans rfl
              have hcz45_2 : wc.cell? ⟨gb522, 2, none⟩ = some (.slice Ao28 t518.length co28) := (blk_cell BK522.out 2).trans rfl
              have hfz45_0 := blk_frozen BK522.out 0
              have hfz45_1 := blk_frozen BK522.out 1
              have hfz45_2 := blk_frozen BK522.out 2
              go_wp2_with (first | ((with_reducible refine gate_callee (f := 31) rfl ?_); refine goesL_ (some 42) rfl rfl Try.func31 (by kernel_rfl) rfl #[.agg #[.int .i64 t514, .slice Ao27 t515.length co27, .slice Ao28 t518.length co28]] rfl (by (try simp only [List.map_toArray, List.map_cons, List.map_nil]); rfl) ?_; (with_reducible refine (impl_PlanesWords.calls kj7 t514 _ _ t515 _ _ t518 t523 _ ?side1 ?side2 ?side3 ?side4 A32.out).mono ?_); (case side1 => repeat (exact (Kd.Q_reads' HO_523001.out).2.2)); (case side2 => exact (Kd.Q_reads' HO_523001.out).2.1); (case side3 => repeat (exact (Kd.R_reads' HO_523002.out).2.2)); (case side4 => exact (Kd.R_reads' HO_523002.out).2.1); rintro e w46 ⟨v524, rfl, ho0, hb⟩; refine ⟨_, rfl, ?_⟩; have n0_ := Aside0.mk (Kd.R_elder' (by (with_reducible repeat (first | apply Kd.R_alloc | apply Kd.R_drewN | apply Kd.R_drew)); exact HO_3.out) (Kd.R_base ho0) hb); have n1_ := Aside0.mk (Kd.Q_below (by (with_reducible repeat (first | apply Kd.Q_alloc | apply Kd.Q_drewN | apply Kd.Q_drew)); exact HO_505001.out) hb); have n2_ := Aside0.mk (Kd.R_below (by (with_reducible repeat (first | apply Kd.R_alloc | apply Kd.R_drewN | apply Kd.R_drew)); exact HO_505002.out) hb); have n3_ := Aside0.mk (Kd.Q_below (by (with_reducible repeat (first | apply Kd.Q_alloc | apply Kd.Q_drewN | apply Kd.Q_drew)); exact HO_514001.out) hb); have n4_ := Aside0.mk (Kd.R_below (by (with_reducible repeat (first | apply Kd.R_alloc | apply Kd.R_drewN | apply Kd.R_drew)); exact HO_514002.out) hb); have n5_ := Aside0.mk (Kd.Q_below (by (with_reducible repeat (first | apply Kd.Q_alloc | apply Kd.Q_drewN | apply Kd.Q_drew)); exact HO_523001.out) hb); have n6_ := Aside0.mk (Kd.R_below (by (with_reducible repeat (first | apply Kd.R_alloc | apply Kd.R_drewN | apply Kd.R_drew)); exact HO_523002.out) hb); have n7_ := Aside0.mk (Kd.R_lower (Kd.R_new' ho0 (Kd.R_lt (by (with_reducible repeat (first | apply Kd.R_alloc | apply Kd.R_drewN | apply Kd.R_drew)); exact HO_3.out))) (below_size (by repeat ((with_reducible exact HB.out))))); have n8_ := Aside0.mk (blk_below (g := gb504) (o := .cells #[.int .i64 t497, .slice Ao13 t498.length co13, .slice Ao14 t501.length co14] 37 (0, 0)) (by (with_reducible repeat (first | refine blk_drewN ?_ _ | refine blk_drew ?_ | refine blk_alloc ?_ _)); exact BK504.out) hb); have n9_ := Aside0.mk (blk_below (g := gb513) (o := .cells #[.int .i64 t505, .slice Ao20 t506.length co20, .slice Ao21 t509.length co21] 37 (0, 0)) (by (with_reducible repeat (first | refine blk_drewN ?_ _ | refine blk_drew ?_ | refine blk_alloc ?_ _)); exact BK513.out) hb); have n10_ := Aside0.mk (blk_below (g := gb522) (o := .cells #[.int .i64 t514, .slice Ao27 t515.length co27, .slice Ao28 t518.length co28] 37 (0, 0)) (by (with_reducible repeat (first | refine blk_drewN ?_ _ | refine blk_drew ?_ | refine blk_alloc ?_ _)); exact BK522.out) hb); have n11_ := Aside0.mk (below_step (by repeat ((with_reducible exact HB.out))) hb); clear HO_3; clear HO_505001; clear HO_505002; clear HO_514001; clear HO_514002; clear HO_523001; clear HO_523002; clear BK504; clear BK513; clear BK522; clear HB; have HO_3 := n0_; have HO_505001 := n1_; have HO_505002 := n2_; have HO_514001 := n3_; have HO_514002 := n4_; have HO_523001 := n5_; have HO_523002 := n6_; have HO525 := n7_; have BK504 := n8_; have BK513 := n9_; have BK522 := n10_; have HB := n11_; clear n0_ n1_ n2_ n3_ n4_ n5_ n6_ n7_ n8_ n9_ n10_ n11_; (try clear hb); (try clear hb2); (try clear hk); (try clear hi); (try clear ho0); obtain ⟨Ao47, co47, eo47⟩ := Kd.R_slice HO525.out; subst eo47) | ((with_reducible refine gate_callee (f := 40) rfl ?_); refine goesL_ (some 44) rfl rfl Try.func40 (by kernel_rfl) rfl #[.slice Ao47 t523.length co47, .slice Ao15 t493.length co15] rfl (by (try simp only [List.map_toArray, List.map_cons, List.map_nil]); rfl) ?_; (with_reducible refine (laws_sameWords.calls kj7 _ _ t523 _ _ t493 false _ ?side1 ?side2 ?side3 ?side4 A33.out).mono ?_); (case side1 => repeat (exact (Kd.R_reads' HO525.out).2.2)); (case side2 => exact (Kd.R_reads' HO525.out).2.1); (case side3 => repeat (exact (Kd.R_reads' HO_3.out).2.2)); (case side4 => exact (Kd.R_reads' HO_3.out).2.1); rintro e w' ⟨rfl, ⟨nd, rfl⟩⟩; refine ⟨_, rfl, ?_⟩))
              go_meet
              case rel => exact ⟨_, (true), (by rfl), H', ⟨by have := HJ7.out; omega⟩, ⟨by (with_reducible repeat (apply Kd.R_drewN)); exact Kd.R_mono HO_3.out (fun _ hk => trivial)⟩, ⟨by (with_reducible repeat (apply Kd.Q_drewN)); exact HO_505001.out⟩, ⟨by (with_reducible repeat (apply Kd.R_drewN)); exact HO_505002.out⟩, ⟨by (with_reducible repeat (apply Kd.Q_drewN)); exact HO_514001.out⟩, ⟨by (with_reducible repeat (apply Kd.R_drewN)); exact HO_514002.out⟩, ⟨by (with_reducible repeat (apply Kd.Q_drewN)); exact HO_523001.out⟩, ⟨by (with_reducible repeat (apply Kd.R_drewN)); exact HO_523002.out⟩, ⟨by (with_reducible repeat (refine blk_drewN ?_ _)); exact BK504.out⟩, ⟨by (with_reducible repeat (refine blk_drewN ?_ _)); exact BK513.out⟩, ⟨by (with_reducible repeat (refine blk_drewN ?_ _)); exact BK522.out⟩, ⟨by repeat ((with_reducible first | exact HB.out | apply pw_below_drewN))⟩⟩
          case rest =>
            clear HC31
            try clear c1
            try clear c2
            try clear p2
            try clear c3
            try clear c4
            try clear c8
            try clear c9
            try clear c18
            try clear c20
            try clear c24
            try clear c25
            try clear c29
            try clear c29b0
            try clear c29b1
            try clear c29b2
            try clear c30
            try clear c31
            try clear c34
            try clear c36
            try clear c37
            try clear c38
            try clear c39
            try clear c40
            try clear c43
            try clear c44
            try clear hcz12_0
            try clear hcz12_1
            try clear hcz12_2
            try clear hcz19_0
            try clear hcz19_1
            try clear hcz19_2
            try clear hcz26_0
            try clear hcz26_1
            try clear hcz26_2
            try clear hcz38_0
            try clear hcz38_1
            try clear hcz38_2
            try clear hcz41_0
            try clear hcz41_1
            try clear hcz41_2
            try clear hcz45_0
            try clear hcz45_1
            try clear hcz45_2
            try clear hfz12_0
            try clear hfz12_1
            try clear hfz12_2
            try clear hfz19_0
            try clear hfz19_1
            try clear hfz19_2
            try clear hfz26_0
            try clear hfz26_1
            try clear hfz26_2
            try clear hfz38_0
            try clear hfz38_1
            try clear hfz38_2
            try clear hfz41_0
            try clear hfz41_1
            try clear hfz41_2
            try clear hfz45_0
            try clear hfz45_1
            try clear hfz45_2
            try clear p2
            obtain ⟨kq, x50_30, rfl, HA, HJ30, HO_3, HO_505001, HO_505002, HO_514001, HO_514002, HO_523001, HO_523002, BK504, BK513, BK522, HB⟩ := hcut
            cases kq with
            | zero => exact absurd HA.out (by simp [laws_FnBatch.j1])
            | succ kj30 =>
              have H := HA.out
              clear HA
              simp only [laws_FnBatch.j1] at H
              by_cases c48 : x50_30 = true
              · subst c48
                have H1 : (some false) = some r := by rw [if_pos rfl] at H; exact H
                clear H
                have H := H1
                clear H1
                exact absurd ((Option.some.inj H).trans HTRUE_.out) (by decide)
              · replace c48 := Bool.eq_false_iff.mpr c48
                subst c48
                have H1 : ((impl_BatchCapped.f kj30 t496 t514 t515 t518).bind fun t528 => (if (t496.size : Int) > 32 then (some ((t528.length : Int) == 0)) else (laws_FnBatch.l0 kj30 t493 t496 t528 0))) = some r := by rw [if_neg (show ¬ (false = true) by decide)] at H; exact H
                clear H
                have H := H1
                clear H1
                replace H := Option.bind_eq_some_iff.mp H
                obtain ⟨t528, A490, H⟩ := H
                replace H : (if (t496.size : Int) > 32 then (some ((t528.length : Int) == 0)) else (laws_FnBatch.l0 kj30 t493 t496 t528 0)) = some r := H
                have A49 := Aside0.mk A490
                clear A490
                by_cases c50 : (t496.size : Int) > 32
                · rw [if_pos c50] at H
                  have c50b0 : decide (32 < (t496.size : Int)) = true := decide_eq_true c50
                  have c50b1 : decide (32 < t496.size) = true := decide_eq_true (by omega)
                  clear c50
                  obtain rfl := Option.some.inj H
                  have hnb51 := NB522_504.out
                  have hnc51 := NB504_522.out
                  have hnb52 := NB522_513.out
                  have hnc52 := NB513_522.out
                  have hcz53_0 : wc.cell? ⟨gb522, 0, none⟩ = some (.int .i64 t514) := (blk_cell BK522.out 0).trans rfl
                  have hcz53_1 : wc.cell? ⟨gb522, 1, none⟩ = some (.slice Ao27 t515.length co27) := (blk_cell BK522.out 1).trans rfl
                  have hcz53_2 : wc.cell? ⟨gb522, 2, none⟩ = some (.slice Ao28 t518.length co28) := (blk_cell BK522.out 2).trans rfl
                  have hfz53_0 := blk_frozen BK522.out 0
                  have hfz53_1 := blk_frozen BK522.out 1
                  have hfz53_2 := blk_frozen BK522.out 2
                  go_wp2_with (((with_reducible refine gate_callee (f := 34) rfl ?_); refine goesL_ (some 53) rfl rfl Try.func34 (by kernel_rfl) rfl #[.string t496, .agg #[.int .i64 t514, .slice Ao27 t515.length co27, .slice Ao28 t518.length co28]] rfl (by (try simp only [List.map_toArray, List.map_cons, List.map_nil]); rfl) ?_; (with_reducible refine (impl_BatchCapped.calls kj30 t496 t514 _ _ t515 _ _ t518 t528 _ ?side1 ?side2 ?side3 ?side4 A49.out).mono ?_); (case side1 => repeat (exact (Kd.Q_reads' HO_523001.out).2.2)); (case side2 => exact (Kd.Q_reads' HO_523001.out).2.1); (case side3 => repeat (exact (Kd.R_reads' HO_523002.out).2.2)); (case side4 => exact (Kd.R_reads' HO_523002.out).2.1); rintro e w54 ⟨v529, rfl, ho0, hb⟩; refine ⟨_, rfl, ?_⟩; have n0_ := Aside0.mk (Kd.R_below (by (with_reducible repeat (first | apply Kd.R_alloc | apply Kd.R_drewN | apply Kd.R_drew)); exact HO_3.out) hb); have n1_ := Aside0.mk (Kd.Q_below (by (with_reducible repeat (first | apply Kd.Q_alloc | apply Kd.Q_drewN | apply Kd.Q_drew)); exact HO_505001.out) hb); have n2_ := Aside0.mk (Kd.R_below (by (with_reducible repeat (first | apply Kd.R_alloc | apply Kd.R_drewN | apply Kd.R_drew)); exact HO_505002.out) hb); have n3_ := Aside0.mk (Kd.Q_below (by (with_reducible repeat (first | apply Kd.Q_alloc | apply Kd.Q_drewN | apply Kd.Q_drew)); exact HO_514001.out) hb); have n4_ := Aside0.mk (Kd.R_below (by (with_reducible repeat (first | apply Kd.R_alloc | apply Kd.R_drewN | apply Kd.R_drew)); exact HO_514002.out) hb); have n5_ := Aside0.mk (Kd.Q_below (by (with_reducible repeat (first | apply Kd.Q_alloc | apply Kd.Q_drewN | apply Kd.Q_drew)); exact HO_523001.out) hb); have n6_ := Aside0.mk (Kd.R_below (by (with_reducible repeat (first | apply Kd.R_alloc | apply Kd.R_drewN | apply Kd.R_drew)); exact HO_523002.out) hb); have n7_ := Aside0.mk (Kd.R_lower ho0 (below_size (by repeat ((with_reducible exact HB.out))))); have n8_ := Aside0.mk (blk_below (g := gb504) (o := .cells #[.int .i64 t497, .slice Ao13 t498.length co13, .slice Ao14 t501.length co14] 37 (0, 0)) (by (with_reducible repeat (first | refine blk_drewN ?_ _ | refine blk_drew ?_ | refine blk_alloc ?_ _)); exact BK504.out) hb); have n9_ := Aside0.mk (blk_below (g := gb513) (o := .cells #[.int .i64 t505, .slice Ao20 t506.length co20, .slice Ao21 t509.length co21] 37 (0, 0)) (by (with_reducible repeat (first | refine blk_drewN ?_ _ | refine blk_drew ?_ | refine blk_alloc ?_ _)); exact BK513.out) hb); have n10_ := Aside0.mk (blk_below (g := gb522) (o := .cells #[.int .i64 t514, .slice Ao27 t515.length co27, .slice Ao28 t518.length co28] 37 (0, 0)) (by (with_reducible repeat (first | refine blk_drewN ?_ _ | refine blk_drew ?_ | refine blk_alloc ?_ _)); exact BK522.out) hb); have n11_ := Aside0.mk (below_step (by repeat ((with_reducible exact HB.out))) hb); clear HO_3; clear HO_505001; clear HO_505002; clear HO_514001; clear HO_514002; clear HO_523001; clear HO_523002; clear BK504; clear BK513; clear BK522; clear HB; have HO_3 := n0_; have HO_505001 := n1_; have HO_505002 := n2_; have HO_514001 := n3_; have HO_514002 := n4_; have HO_523001 := n5_; have HO_523002 := n6_; have HO530 := n7_; have BK504 := n8_; have BK513 := n9_; have BK522 := n10_; have HB := n11_; clear n0_ n1_ n2_ n3_ n4_ n5_ n6_ n7_ n8_ n9_ n10_ n11_; (try clear hb); (try clear hb2); (try clear hk); (try clear hi); (try clear ho0); obtain ⟨Ao55, co55, eo55⟩ := Kd.R_slice HO530.out; subst eo55))
                  go_ret
                  exact ⟨by rfl, by repeat ((with_reducible exact HB.out))⟩
                · rw [if_neg c50] at H
                  have c50b0 : decide (32 < (t496.size : Int)) = false := decide_eq_false c50
                  have c50b1 : decide (32 < t496.size) = false := decide_eq_false (by omega)
                  clear c50
                  have H' := Aside0.mk H
                  clear H
                  have hnb56 := NB522_504.out
                  have hnc56 := NB504_522.out
                  have hnb57 := NB522_513.out
                  have hnc57 := NB513_522.out
                  have hcz58_0 : wc.cell? ⟨gb522, 0, none⟩ = some (.int .i64 t514) := (blk_cell BK522.out 0).trans rfl
                  have hcz58_1 : wc.cell? ⟨gb522, 1, none⟩ = some (.slice Ao27 t515.length co27) := (blk_cell BK522.out 1).trans rfl
                  have hcz58_2 : wc.cell? ⟨gb522, 2, none⟩ = some (.slice Ao28 t518.length co28) := (blk_cell BK522.out 2).trans rfl
                  have hfz58_0 := blk_frozen BK522.out 0
                  have hfz58_1 := blk_frozen BK522.out 1
                  have hfz58_2 := blk_frozen BK522.out 2
                  go_wp2_with (((with_reducible refine gate_callee (f := 34) rfl ?_); refine goesL_ (some 53) rfl rfl Try.func34 (by kernel_rfl) rfl #[.string t496, .agg #[.int .i64 t514, .slice Ao27 t515.length co27, .slice Ao28 t518.length co28]] rfl (by (try simp only [List.map_toArray, List.map_cons, List.map_nil]); rfl) ?_; (with_reducible refine (impl_BatchCapped.calls kj30 t496 t514 _ _ t515 _ _ t518 t528 _ ?side1 ?side2 ?side3 ?side4 A49.out).mono ?_); (case side1 => repeat (exact (Kd.Q_reads' HO_523001.out).2.2)); (case side2 => exact (Kd.Q_reads' HO_523001.out).2.1); (case side3 => repeat (exact (Kd.R_reads' HO_523002.out).2.2)); (case side4 => exact (Kd.R_reads' HO_523002.out).2.1); rintro e w59 ⟨v529, rfl, ho0, hb⟩; refine ⟨_, rfl, ?_⟩; have n0_ := Aside0.mk (Kd.R_below (by (with_reducible repeat (first | apply Kd.R_alloc | apply Kd.R_drewN | apply Kd.R_drew)); exact HO_3.out) hb); have n1_ := Aside0.mk (Kd.Q_below (by (with_reducible repeat (first | apply Kd.Q_alloc | apply Kd.Q_drewN | apply Kd.Q_drew)); exact HO_505001.out) hb); have n2_ := Aside0.mk (Kd.R_below (by (with_reducible repeat (first | apply Kd.R_alloc | apply Kd.R_drewN | apply Kd.R_drew)); exact HO_505002.out) hb); have n3_ := Aside0.mk (Kd.Q_below (by (with_reducible repeat (first | apply Kd.Q_alloc | apply Kd.Q_drewN | apply Kd.Q_drew)); exact HO_514001.out) hb); have n4_ := Aside0.mk (Kd.R_below (by (with_reducible repeat (first | apply Kd.R_alloc | apply Kd.R_drewN | apply Kd.R_drew)); exact HO_514002.out) hb); have n5_ := Aside0.mk (Kd.Q_below (by (with_reducible repeat (first | apply Kd.Q_alloc | apply Kd.Q_drewN | apply Kd.Q_drew)); exact HO_523001.out) hb); have n6_ := Aside0.mk (Kd.R_below (by (with_reducible repeat (first | apply Kd.R_alloc | apply Kd.R_drewN | apply Kd.R_drew)); exact HO_523002.out) hb); have n7_ := Aside0.mk (Kd.R_lower ho0 (below_size (by repeat ((with_reducible exact HB.out))))); have n8_ := Aside0.mk (blk_below (g := gb504) (o := .cells #[.int .i64 t497, .slice Ao13 t498.length co13, .slice Ao14 t501.length co14] 37 (0, 0)) (by (with_reducible repeat (first | refine blk_drewN ?_ _ | refine blk_drew ?_ | refine blk_alloc ?_ _)); exact BK504.out) hb); have n9_ := Aside0.mk (blk_below (g := gb513) (o := .cells #[.int .i64 t505, .slice Ao20 t506.length co20, .slice Ao21 t509.length co21] 37 (0, 0)) (by (with_reducible repeat (first | refine blk_drewN ?_ _ | refine blk_drew ?_ | refine blk_alloc ?_ _)); exact BK513.out) hb); have n10_ := Aside0.mk (blk_below (g := gb522) (o := .cells #[.int .i64 t514, .slice Ao27 t515.length co27, .slice Ao28 t518.length co28] 37 (0, 0)) (by (with_reducible repeat (first | refine blk_drewN ?_ _ | refine blk_drew ?_ | refine blk_alloc ?_ _)); exact BK522.out) hb); have n11_ := Aside0.mk (below_step (by repeat ((with_reducible exact HB.out))) hb); clear HO_3; clear HO_505001; clear HO_505002; clear HO_514001; clear HO_514002; clear HO_523001; clear HO_523002; clear BK504; clear BK513; clear BK522; clear HB; have HO_3 := n0_; have HO_505001 := n1_; have HO_505002 := n2_; have HO_514001 := n3_; have HO_514002 := n4_; have HO_523001 := n5_; have HO_523002 := n6_; have HO530 := n7_; have BK504 := n8_; have BK513 := n9_; have BK522 := n10_; have HB := n11_; clear n0_ n1_ n2_ n3_ n4_ n5_ n6_ n7_ n8_ n9_ n10_ n11_; (try clear hb); (try clear hb2); (try clear hk); (try clear hi); (try clear ho0)))
                  go_loopg [11] kj30 (fun kq v11 w' => ∃ (x11_3 : Int), v11 = .int .i64 x11_3 ∧ Aside0 (laws_FnBatch.l0 kq t493 t496 t528 x11_3 = some r) ∧ Aside0 (kq ≤ kj30) ∧ Aside0 (Kd.R Kd.string 9 w' w.heap.size (fun _ => True) (.slice Ao15 t493.length co15) t493) ∧ Aside0 (Kd.R (Kd.int .i64) 3 w' w.heap.size (fun _ => True) v529 t528) ∧ Aside0 (Kd.Q (Kd.int .u64) 30 w' w.heap.size (fun k_ => some k_ ≠ ((.slice Ao14 t501.length co14) : Value).ownBlock ∧ some k_ ≠ ((.slice Ao20 t506.length co20) : Value).ownBlock ∧ some k_ ≠ ((.slice Ao21 t509.length co21) : Value).ownBlock ∧ some k_ ≠ ((.slice Ao27 t515.length co27) : Value).ownBlock ∧ some k_ ≠ ((.slice Ao28 t518.length co28) : Value).ownBlock) (.slice Ao13 t498.length co13) t498) ∧ Aside0 (Kd.R (Kd.int .u64) 30 w' w.heap.size (fun k_ => some k_ ≠ ((.slice Ao13 t498.length co13) : Value).ownBlock ∧ some k_ ≠ ((.slice Ao20 t506.length co20) : Value).ownBlock ∧ some k_ ≠ ((.slice Ao21 t509.length co21) : Value).ownBlock ∧ some k_ ≠ ((.slice Ao27 t515.length co27) : Value).ownBlock ∧ some k_ ≠ ((.slice Ao28 t518.length co28) : Value).ownBlock) (.slice Ao14 t501.length co14) t501) ∧ Aside0 (Kd.Q (Kd.int .u64) 30 w' w.heap.size (fun k_ => some k_ ≠ ((.slice Ao13 t498.length co13) : Value).ownBlock ∧ some k_ ≠ ((.slice Ao14 t501.length co14) : Value).ownBlock ∧ some k_ ≠ ((.slice Ao21 t509.length co21) : Value).ownBlock ∧ some k_ ≠ ((.slice Ao27 t515.length co27) : Value).ownBlock ∧ some k_ ≠ ((.slice Ao28 t518.length co28) : Value).ownBlock) (.slice Ao20 t506.length co20) t506) ∧ Aside0 (Kd.R (Kd.int .u64) 30 w' w.heap.size (fun k_ => some k_ ≠ ((.slice Ao13 t498.length co13) : Value).ownBlock ∧ some k_ ≠ ((.slice Ao14 t501.length co14) : Value).ownBlock ∧ some k_ ≠ ((.slice Ao20 t506.length co20) : Value).ownBlock ∧ some k_ ≠ ((.slice Ao27 t515.length co27) : Value).ownBlock ∧ some k_ ≠ ((.slice Ao28 t518.length co28) : Value).ownBlock) (.slice Ao21 t509.length co21) t509) ∧ Aside0 (Kd.Q (Kd.int .u64) 30 w' w.heap.size (fun k_ => some k_ ≠ ((.slice Ao13 t498.length co13) : Value).ownBlock ∧ some k_ ≠ ((.slice Ao14 t501.length co14) : Value).ownBlock ∧ some k_ ≠ ((.slice Ao20 t506.length co20) : Value).ownBlock ∧ some k_ ≠ ((.slice Ao21 t509.length co21) : Value).ownBlock ∧ some k_ ≠ ((.slice Ao28 t518.length co28) : Value).ownBlock) (.slice Ao27 t515.length co27) t515) ∧ Aside0 (Kd.R (Kd.int .u64) 30 w' w.heap.size (fun k_ => some k_ ≠ ((.slice Ao13 t498.length co13) : Value).ownBlock ∧ some k_ ≠ ((.slice Ao14 t501.length co14) : Value).ownBlock ∧ some k_ ≠ ((.slice Ao20 t506.length co20) : Value).ownBlock ∧ some k_ ≠ ((.slice Ao21 t509.length co21) : Value).ownBlock ∧ some k_ ≠ ((.slice Ao27 t515.length co27) : Value).ownBlock) (.slice Ao28 t518.length co28) t518) ∧ Aside0 (w'.heap[gb504]? = some (.cells #[.int .i64 t497, (.slice Ao13 t498.length co13), (.slice Ao14 t501.length co14)] 37 (0, 0))) ∧ Aside0 (w'.heap[gb513]? = some (.cells #[.int .i64 t505, (.slice Ao20 t506.length co20), (.slice Ao21 t509.length co21)] 37 (0, 0))) ∧ Aside0 (w'.heap[gb522]? = some (.cells #[.int .i64 t514, (.slice Ao27 t515.length co27), (.slice Ao28 t518.length co28)] 37 (0, 0))) ∧ Aside0 (Below w.heap.size w w'))
                  case atStart => exact ⟨(0), (by rfl), H', ⟨Nat.le_refl _⟩, ⟨by (with_reducible repeat (first | apply Kd.R_alloc | apply Kd.R_drewN | apply Kd.R_drew)); exact HO_3.out⟩, ⟨by (with_reducible repeat (first | apply Kd.R_alloc | apply Kd.R_drewN | apply Kd.R_drew)); exact HO530.out⟩, ⟨by (with_reducible repeat (first | apply Kd.Q_alloc | apply Kd.Q_drewN | apply Kd.Q_drew)); exact HO_505001.out⟩, ⟨by (with_reducible repeat (first | apply Kd.R_alloc | apply Kd.R_drewN | apply Kd.R_drew)); exact HO_505002.out⟩, ⟨by (with_reducible repeat (first | apply Kd.Q_alloc | apply Kd.Q_drewN | apply Kd.Q_drew)); exact HO_514001.out⟩, ⟨by (with_reducible repeat (first | apply Kd.R_alloc | apply Kd.R_drewN | apply Kd.R_drew)); exact HO_514002.out⟩, ⟨by (with_reducible repeat (first | apply Kd.Q_alloc | apply Kd.Q_drewN | apply Kd.Q_drew)); exact HO_523001.out⟩, ⟨by (with_reducible repeat (first | apply Kd.R_alloc | apply Kd.R_drewN | apply Kd.R_drew)); exact HO_523002.out⟩, ⟨by (with_reducible repeat (first | refine blk_drewN ?_ _ | refine blk_drew ?_ | refine blk_alloc ?_ _)); exact BK504.out⟩, ⟨by (with_reducible repeat (first | refine blk_drewN ?_ _ | refine blk_drew ?_ | refine blk_alloc ?_ _)); exact BK513.out⟩, ⟨by (with_reducible repeat (first | refine blk_drewN ?_ _ | refine blk_drew ?_ | refine blk_alloc ?_ _)); exact BK522.out⟩, ⟨by repeat ((with_reducible exact HB.out))⟩⟩
                  case round =>
                    clear H'
                    try clear c1
                    try clear c2
                    try clear p2
                    try clear c3
                    try clear c4
                    try clear c5
                    try clear c8
                    try clear c9
                    try clear c18
                    try clear c20
                    try clear c24
                    try clear c25
                    try clear c29
                    try clear c29b0
                    try clear c29b1
                    try clear c29b2
                    try clear c30
                    try clear c31
                    try clear c34
                    try clear c36
                    try clear c37
                    try clear c38
                    try clear c39
                    try clear c40
                    try clear c43
                    try clear c44
                    try clear c48
                    try clear c50
                    try clear c50b0
                    try clear c50b1
                    try clear c51
                    try clear c52
                    try clear c56
                    try clear c57
                    try clear hcz12_0
                    try clear hcz12_1
                    try clear hcz12_2
                    try clear hcz19_0
                    try clear hcz19_1
                    try clear hcz19_2
                    try clear hcz26_0
                    try clear hcz26_1
                    try clear hcz26_2
                    try clear hcz38_0
                    try clear hcz38_1
                    try clear hcz38_2
                    try clear hcz41_0
                    try clear hcz41_1
                    try clear hcz41_2
                    try clear hcz45_0
                    try clear hcz45_1
                    try clear hcz45_2
                    try clear hcz53_0
                    try clear hcz53_1
                    try clear hcz53_2
                    try clear hcz58_0
                    try clear hcz58_1
                    try clear hcz58_2
                    try clear hfz12_0
                    try clear hfz12_1
                    try clear hfz12_2
                    try clear hfz19_0
                    try clear hfz19_1
                    try clear hfz19_2
                    try clear hfz26_0
                    try clear hfz26_1
                    try clear hfz26_2
                    try clear hfz38_0
                    try clear hfz38_1
                    try clear hfz38_2
                    try clear hfz41_0
                    try clear hfz41_1
                    try clear hfz41_2
                    try clear hfz45_0
                    try clear hfz45_1
                    try clear hfz45_2
                    try clear hfz53_0
                    try clear hfz53_1
                    try clear hfz53_2
                    try clear hfz58_0
                    try clear hfz58_1
                    try clear hfz58_2
                    try clear p2
                    obtain ⟨x11_3, rfl, HA, HK3, HO_3, HO_10, HO_505001, HO_505002, HO_514001, HO_514002, HO_523001, HO_523002, BK504, BK513, BK522, HB⟩ := hrel
                    cases gk with
                    | zero => exact absurd HA.out (by simp [laws_FnBatch.l0])
                    | succ k3 =>
                      have H := HA.out
                      clear HA
                      simp only [laws_FnBatch.l0] at H
                      by_cases c60 : x11_3 < (t493.length : Int)
                      · rw [if_pos c60] at H
                        have c60b0 : decide (x11_3 < (t493.length : Int)) = true := decide_eq_true c60
                        clear c60
                        by_cases c61 : x11_3 ≥ (t528.length : Int)
                        · rw [if_pos c61] at H
                          have c61b0 : decide ((t528.length : Int) ≤ x11_3) = true := decide_eq_true c61
                          clear c61
                          exact absurd ((Option.some.inj H).trans HTRUE_.out) (by decide)
                        · rw [if_neg c61] at H
                          have c61b0 : decide ((t528.length : Int) ≤ x11_3) = false := decide_eq_false c61
                          clear c61
                          by_cases c62 : 0 ≤ x11_3
                          · rw [if_pos c62] at H
                            have c62b0 : decide (0 ≤ x11_3) = true := decide_eq_true c62
                            clear c62
                            by_cases c63 : x11_3 < (t528.length : Int)
                            · rw [if_pos c63] at H
                              have c63b0 : decide (x11_3 < (t528.length : Int)) = true := decide_eq_true c63
                              clear c63
                              replace H := Option.bind_eq_some_iff.mp H
                              obtain ⟨t533, A640, H⟩ := H
                              replace H : (if (rd t528 x11_3) = t533 then ((spec_Capped.f k3 t496 (rdOf ByteArray.empty t493 x11_3)).bind fun t536 => (if (rd t528 x11_3) = t536 then (laws_FnBatch.l0 k3 t493 t496 t528 (wrap64 (x11_3 + 1))) else (some false))) else (some false)) = some r := H
                              have A64 := Aside0.mk A640
                              clear A640
                              by_cases c65 : (rd t528 x11_3) = t533
                              · rw [if_pos c65] at H
                                have c65b0 : ((rd t528 x11_3) == t533) = true := beq_iff_eq.mpr c65
                                have c65b1 : ((rd t528 x11_3) != t533) = false := bne_eq_false_iff_eq.mpr c65
                                clear c65
                                replace H := Option.bind_eq_some_iff.mp H
                                obtain ⟨t536, A660, H⟩ := H
                                replace H : (if (rd t528 x11_3) = t536 then (laws_FnBatch.l0 k3 t493 t496 t528 (wrap64 (x11_3 + 1))) else (some false)) = some r := H
                                have A66 := Aside0.mk A660
                                clear A660
                                by_cases c67 : (rd t528 x11_3) = t536
                                · rw [if_pos c67] at H
                                  have c67b0 : ((rd t528 x11_3) == t536) = true := beq_iff_eq.mpr c67
                                  have c67b1 : ((rd t528 x11_3) != t536) = false := bne_eq_false_iff_eq.mpr c67
                                  clear c67
                                  have H' := Aside0.mk H
                                  clear H
                                  try go_wp2
                                  have n0_ := Aside0.mk (Kd.R_drew HO_3.out)
                                  have n1_ := Aside0.mk (Kd.R_drew HO_10.out)
                                  have n2_ := Aside0.mk (Kd.Q_drew HO_505001.out)
                                  have n3_ := Aside0.mk (Kd.R_drew HO_505002.out)
                                  have n4_ := Aside0.mk (Kd.Q_drew HO_514001.out)
                                  have n5_ := Aside0.mk (Kd.R_drew HO_514002.out)
                                  have n6_ := Aside0.mk (Kd.Q_drew HO_523001.out)
                                  have n7_ := Aside0.mk (Kd.R_drew HO_523002.out)
                                  have n8_ := Aside0.mk (blk_drew BK504.out)
                                  have n9_ := Aside0.mk (blk_drew BK513.out)
                                  have n10_ := Aside0.mk (blk_drew BK522.out)
                                  have n11_ := Aside0.mk (below_drew1 HB.out)
                                  clear HO_3
                                  clear HO_10
                                  clear HO_505001
                                  clear HO_505002
                                  clear HO_514001
                                  clear HO_514002
                                  clear HO_523001
                                  clear HO_523002
                                  clear BK504
                                  clear BK513
                                  clear BK522
                                  clear HB
                                  have HO_3 := n0_
                                  have HO_10 := n1_
                                  have HO_505001 := n2_
                                  have HO_505002 := n3_
                                  have HO_514001 := n4_
                                  have HO_514002 := n5_
                                  have HO_523001 := n6_
                                  have HO_523002 := n7_
                                  have BK504 := n8_
                                  have BK513 := n9_
                                  have BK522 := n10_
                                  have HB := n11_
                                  clear n0_ n1_ n2_ n3_ n4_ n5_ n6_ n7_ n8_ n9_ n10_ n11_
                                  obtain ⟨Ao69, co69, eo69⟩ := Kd.R_slice HO_10.out
                                  (subst eo69)
                                  have p531 : 0 ≤ (x11_3 : Int) := of_decide_eq_true (by (with_reducible assumption))
                                  have q531 : x11_3 < (t528.length : Int) := of_decide_eq_true (by (with_reducible assumption))
                                  obtain ⟨ad531, e531, hx531_0⟩ := Kd.at_int (Kd.R_reads' HO_10.out).2.2 x11_3 p531 q531
                                  cases e531
                                  replace p531 := eq_true p531
                                  replace q531 := eq_true q531
                                  have p532 : 0 ≤ (x11_3 : Int) := of_decide_eq_true (by (with_reducible assumption))
                                  have q532 : x11_3 < (t493.length : Int) := of_decide_eq_true (by (with_reducible assumption))
                                  obtain ⟨Aq532, cq532, eq532⟩ := Kd.R_slice HO_3.out
                                  clear eq532
                                  obtain ⟨ad532, e532, hx532_0⟩ := Kd.at_string (Kd.R_reads' HO_3.out).2.2 x11_3 p532 q532
                                  cases e532
                                  replace p532 := eq_true p532
                                  replace q532 := eq_true q532
                                  have p534 : 0 ≤ (x11_3 : Int) := of_decide_eq_true (by (with_reducible assumption))
                                  have q534 : x11_3 < (t528.length : Int) := of_decide_eq_true (by (with_reducible assumption))
                                  obtain ⟨ad534, e534, hx534_0⟩ := Kd.at_int (Kd.R_reads' HO_10.out).2.2 x11_3 p534 q534
                                  obtain rfl : ad531 = ad534 := (by injection e534)
                                  replace p534 := eq_true p534
                                  replace q534 := eq_true q534
                                  have p535 : 0 ≤ (x11_3 : Int) := of_decide_eq_true (by (with_reducible assumption))
                                  have q535 : x11_3 < (t493.length : Int) := of_decide_eq_true (by (with_reducible assumption))
                                  obtain ⟨ad535, e535, hx535_0⟩ := Kd.at_string (Kd.R_reads' HO_3.out).2.2 x11_3 p535 q535
                                  obtain rfl : ad532 = ad535 := (by injection e535)
                                  replace p535 := eq_true p535
                                  replace q535 := eq_true q535
                                  refine start_ (n := 30) (S := fun w' => w'.cell? (ad531.add (x11_3).toNat) = some (.int .i64 (rd t528 x11_3)) ∧ w'.cell? (ad532.add (x11_3).toNat) = some (.string (rdOf ByteArray.empty t493 x11_3)) ∧ w'.cell? (ad531.add (x11_3).toNat) = some (.int .i64 (rd t528 x11_3)) ∧ w'.cell? (ad532.add (x11_3).toNat) = some (.string (rdOf ByteArray.empty t493 x11_3))) (ds := []) #[false, false, false, false, false, false, false, false, false, false, false, false, false, false, false, false, false, false, false, false, false, false, false, false, false, false, false, false, false, false] (by kernel_rfl) rfl rfl ⟨hx531_0, hx532_0, hx534_0, hx535_0⟩ (fun hHeld => ?_); refine with_tabW laws_FnBatch.tab17 laws_FnBatch.bits17 (fun HT_ HW_ => ?_)
                                  generalize wr.drew = w68 at HO_3 HO_10 HO_505001 HO_505002 HO_514001 HO_514002 HO_523001 HO_523002 BK504 BK513 BK522 HB hx531_0 hx532_0 hx534_0 hx535_0 hHeld ⊢
                                  refine pure_ (i := 0) (N := some 66) (v := ?_) (a' := ?_) #[true, false, false, false, false, false, false, false, false, false, false, false, false, false, false, false, false, false, false, false, false, false, false, false, false, false, false, false, false, false] rfl rfl (any_of HT_.out (by kernel_rfl)) (fun _ _ _ h => h) (Or.inl ⟨by rfl, ?_⟩) ?_ ?_
                                  rotate_left
                                  · intro w'
                                    go_simp
                                    with_reducible rfl
                                  rotate_left
                                  · simp only [Act.put, List.setIfInBounds_toArray, List.set_cons_zero, List.set_cons_succ, i64_w, i32_w]
                                    rfl
                                  refine pure_ (i := 1) (N := some 67) (v := ?_) (a' := ?_) #[true, true, false, false, false, false, false, false, false, false, false, false, false, false, false, false, false, false, false, false, false, false, false, false, false, false, false, false, false, false] rfl rfl (any_of HT_.out (by kernel_rfl)) (fun _ _ _ h => h) (Or.inl ⟨by rfl, ?_⟩) ?_ ?_
                                  rotate_left
                                  · intro w'
                                    go_simp
                                    with_reducible rfl
                                  rotate_left
                                  · simp only [Act.put, List.setIfInBounds_toArray, List.set_cons_zero, List.set_cons_succ, i64_w, i32_w]
                                    rfl
                                  refine pure_ (i := 2) (N := some 68) (v := ?_) (a' := ?_) #[true, true, true, false, false, false, false, false, false, false, false, false, false, false, false, false, false, false, false, false, false, false, false, false, false, false, false, false, false, false] rfl rfl (any_of HT_.out (by kernel_rfl)) (fun _ _ _ h => h) (Or.inl ⟨by rfl, ?_⟩) ?_ ?_
                                  rotate_left
                                  · intro w'
                                    go_simp
                                    with_reducible rfl
                                  rotate_left
                                  · simp only [Act.put, List.setIfInBounds_toArray, List.set_cons_zero, List.set_cons_succ, i64_w, i32_w]
                                    rfl
                                  refine pure_ (i := 3) (N := some 69) (v := ?_) (a' := ?_) #[true, true, true, true, false, false, false, false, false, false, false, false, false, false, false, false, false, false, false, false, false, false, false, false, false, false, false, false, false, false] rfl rfl (any_of HT_.out (by kernel_rfl)) (fun _ _ _ h => h) (Or.inl ⟨by rfl, ?_⟩) ?_ ?_
                                  rotate_left
                                  · intro w'
                                    go_simp
                                    with_reducible rfl
                                  rotate_left
                                  · simp only [Act.put, List.setIfInBounds_toArray, List.set_cons_zero, List.set_cons_succ, i64_w, i32_w]
                                    rfl
                                  refine pure_ (i := 4) (N := some 70) (v := ?_) (a' := ?_) #[true, true, true, true, true, false, false, false, false, false, false, false, false, false, false, false, false, false, false, false, false, false, false, false, false, false, false, false, false, false] rfl rfl (any_of HT_.out (by kernel_rfl)) (fun _ _ _ h => h) (Or.inl ⟨by rfl, ?_⟩) ?_ ?_
                                  rotate_left
                                  · intro w'
                                    go_simp
                                    with_reducible rfl
                                  rotate_left
                                  · simp only [Act.put, List.setIfInBounds_toArray, List.set_cons_zero, List.set_cons_succ, i64_w, i32_w]
                                    rfl
                                  refine pure_ (i := 5) (N := some 71) (v := ?_) (a' := ?_) #[true, true, true, true, true, true, false, false, false, false, false, false, false, false, false, false, false, false, false, false, false, false, false, false, false, false, false, false, false, false] rfl rfl (any_of HT_.out (by kernel_rfl)) (fun _ _ _ h => h) (Or.inl ⟨by rfl, ?_⟩) ?_ ?_
                                  rotate_left
                                  · intro w'
                                    go_simp
                                    with_reducible rfl
                                  rotate_left
                                  · simp only [Act.put, List.setIfInBounds_toArray, List.set_cons_zero, List.set_cons_succ, i64_w, i32_w]
                                    rfl
                                  refine pure_ (i := 6) (N := some 72) (v := ?_) (a' := ?_) #[true, true, true, true, true, true, true, false, false, false, false, false, false, false, false, false, false, false, false, false, false, false, false, false, false, false, false, false, false, false] rfl rfl (any_of HT_.out (by kernel_rfl)) (fun _ _ _ h => h) (Or.inl ⟨by rfl, ?_⟩) ?_ ?_
                                  rotate_left
                                  · intro w'
                                    go_simp
                                    with_reducible rfl
                                  rotate_left
                                  · simp only [Act.put, List.setIfInBounds_toArray, List.set_cons_zero, List.set_cons_succ, i64_w, i32_w]
                                    rfl
                                  refine pure_ (i := 7) (N := some 73) (v := ?_) (a' := ?_) #[true, true, true, true, true, true, true, true, false, false, false, false, false, false, false, false, false, false, false, false, false, false, false, false, false, false, false, false, false, false] rfl rfl (any_of HT_.out (by kernel_rfl)) (fun _ _ _ h => h) (Or.inl ⟨by rfl, ?_⟩) ?_ ?_
                                  rotate_left
                                  · intro w'
                                    go_simp
                                    with_reducible rfl
                                  rotate_left
                                  · simp only [Act.put, List.setIfInBounds_toArray, List.set_cons_zero, List.set_cons_succ, i64_w, i32_w]
                                    rfl
                                  refine pure_ (i := 9) (N := some 75) (v := ?_) (a' := ?_) #[true, true, true, true, true, true, true, true, false, true, false, false, false, false, false, false, false, false, false, false, false, false, false, false, false, false, false, false, false, false] rfl rfl (any_of HT_.out (by kernel_rfl)) (fun _ _ _ h => h) (Or.inl ⟨by rfl, ?_⟩) ?_ ?_
                                  rotate_left
                                  · intro w'
                                    go_simp
                                    with_reducible rfl
                                  rotate_left
                                  · simp only [Act.put, List.setIfInBounds_toArray, List.set_cons_zero, List.set_cons_succ, i64_w, i32_w]
                                    rfl
                                  refine pure_ (i := 10) (N := some 76) (v := ?_) (a' := ?_) #[true, true, true, true, true, true, true, true, false, true, true, false, false, false, false, false, false, false, false, false, false, false, false, false, false, false, false, false, false, false] rfl rfl (any_of HT_.out (by kernel_rfl)) (fun _ _ _ h => h) (Or.inl ⟨by rfl, ?_⟩) ?_ ?_
                                  rotate_left
                                  · intro w'
                                    go_simp
                                    with_reducible rfl
                                  rotate_left
                                  · simp only [Act.put, List.setIfInBounds_toArray, List.set_cons_zero, List.set_cons_succ, i64_w, i32_w]
                                    rfl
                                  refine pure_ (i := 11) (N := some 77) (v := ?_) (a' := ?_) #[true, true, true, true, true, true, true, true, false, true, true, true, false, false, false, false, false, false, false, false, false, false, false, false, false, false, false, false, false, false] rfl rfl (any_of HT_.out (by kernel_rfl)) (fun _ _ _ h => h) (Or.inl ⟨by rfl, ?_⟩) ?_ ?_
                                  rotate_left
                                  · intro w'
                                    go_simp
                                    with_reducible rfl
                                  rotate_left
                                  · simp only [Act.put, List.setIfInBounds_toArray, List.set_cons_zero, List.set_cons_succ, i64_w, i32_w]
                                    rfl
                                  refine pure_ (i := 12) (N := some 78) (v := ?_) (a' := ?_) #[true, true, true, true, true, true, true, true, false, true, true, true, true, false, false, false, false, false, false, false, false, false, false, false, false, false, false, false, false, false] rfl rfl (any_of HT_.out (by kernel_rfl)) (fun _ _ _ h => h) (Or.inl ⟨by rfl, ?_⟩) ?_ ?_
                                  rotate_left
                                  · intro w'
                                    go_simp
                                    with_reducible rfl
                                  rotate_left
                                  · simp only [Act.put, List.setIfInBounds_toArray, List.set_cons_zero, List.set_cons_succ, i64_w, i32_w]
                                    rfl
                                  refine take_ (i := 8) (N := some 74) (v := ?_) (a' := ?_) #[true, true, true, true, true, true, true, true, true, true, true, true, true, false, false, false, false, false, false, false, false, false, false, false, false, false, false, false, false, false] rfl rfl (take_ofW HT_.out HW_.out (by kernel_rfl)) (fun _ _ _ h => h) (Or.inl ⟨by rfl, ?_⟩) hHeld ?_ ?_
                                  rotate_left
                                  · rintro w' ⟨s0, s1, s2, s3⟩
                                    go_simp
                                    with_reducible rfl
                                  rotate_left
                                  · simp only [Act.put, List.setIfInBounds_toArray, List.set_cons_zero, List.set_cons_succ, i64_w, i32_w]
                                    rfl
                                  refine take_ (i := 13) (N := some 79) (v := ?_) (a' := ?_) #[true, true, true, true, true, true, true, true, true, true, true, true, true, true, false, false, false, false, false, false, false, false, false, false, false, false, false, false, false, false] rfl rfl (take_ofW HT_.out HW_.out (by kernel_rfl)) (fun _ _ _ h => h) (Or.inl ⟨by rfl, ?_⟩) hHeld ?_ ?_
                                  rotate_left
                                  · rintro w' ⟨s0, s1, s2, s3⟩
                                    go_simp
                                    with_reducible rfl
                                  rotate_left
                                  · simp only [Act.put, List.setIfInBounds_toArray, List.set_cons_zero, List.set_cons_succ, i64_w, i32_w]
                                    rfl
                                  refine one_ (i := 14) (N := some 80) #[true, true, true, true, true, true, true, true, true, true, true, true, true, true, true, false, false, false, false, false, false, false, false, false, false, false, false, false, false, false] rfl rfl (one_of HT_.out (by kernel_rfl)) (by decide) (fun K hK => ?_)
                                  refine goes_ Try.func41 (by kernel_rfl) rfl #[.string t496, .string (rdOf ByteArray.empty t493 x11_3)] (by rfl) rfl rfl (by (try simp only [List.map_toArray, List.map_cons, List.map_nil]); rfl) ?_
                                  with_reducible refine (impl_Capped.calls k3 t496 (rdOf ByteArray.empty t493 x11_3) t533 _ A64.out).mono ?_
                                  rintro e w70 ⟨rfl, hb⟩
                                  have HS0_ := (hb.cell (World.block_lt_of_cell? _ _ (hHeld.1))).trans (hHeld.1)
                                  have HS1_ := (hb.cell (World.block_lt_of_cell? _ _ (hHeld.2.1))).trans (hHeld.2.1)
                                  have HS2_ := (hb.cell (World.block_lt_of_cell? _ _ (hHeld.2.2.1))).trans (hHeld.2.2.1)
                                  have HS3_ := (hb.cell (World.block_lt_of_cell? _ _ (hHeld.2.2.2))).trans (hHeld.2.2.2)
                                  refine ⟨_, rfl, ?_⟩
                                  have n0_ := Aside0.mk (Kd.R_below (by (with_reducible repeat (first | apply Kd.R_alloc | apply Kd.R_drewN | apply Kd.R_drew)); exact HO_3.out) hb)
                                  have n1_ := Aside0.mk (Kd.R_below (by (with_reducible repeat (first | apply Kd.R_alloc | apply Kd.R_drewN | apply Kd.R_drew)); exact HO_10.out) hb)
                                  have n2_ := Aside0.mk (Kd.Q_below (by (with_reducible repeat (first | apply Kd.Q_alloc | apply Kd.Q_drewN | apply Kd.Q_drew)); exact HO_505001.out) hb)
                                  have n3_ := Aside0.mk (Kd.R_below (by (with_reducible repeat (first | apply Kd.R_alloc | apply Kd.R_drewN | apply Kd.R_drew)); exact HO_505002.out) hb)
                                  have n4_ := Aside0.mk (Kd.Q_below (by (with_reducible repeat (first | apply Kd.Q_alloc | apply Kd.Q_drewN | apply Kd.Q_drew)); exact HO_514001.out) hb)
                                  have n5_ := Aside0.mk (Kd.R_below (by (with_reducible repeat (first | apply Kd.R_alloc | apply Kd.R_drewN | apply Kd.R_drew)); exact HO_514002.out) hb)
                                  have n6_ := Aside0.mk (Kd.Q_below (by (with_reducible repeat (first | apply Kd.Q_alloc | apply Kd.Q_drewN | apply Kd.Q_drew)); exact HO_523001.out) hb)
                                  have n7_ := Aside0.mk (Kd.R_below (by (with_reducible repeat (first | apply Kd.R_alloc | apply Kd.R_drewN | apply Kd.R_drew)); exact HO_523002.out) hb)
                                  have n8_ := Aside0.mk (blk_below (g := gb504) (o := .cells #[.int .i64 t497, .slice Ao13 t498.length co13, .slice Ao14 t501.length co14] 37 (0, 0)) (by (with_reducible repeat (first | refine blk_drewN ?_ _ | refine blk_drew ?_ | refine blk_alloc ?_ _)); exact BK504.out) hb)
                                  have n9_ := Aside0.mk (blk_below (g := gb513) (o := .cells #[.int .i64 t505, .slice Ao20 t506.length co20, .slice Ao21 t509.length co21] 37 (0, 0)) (by (with_reducible repeat (first | refine blk_drewN ?_ _ | refine blk_drew ?_ | refine blk_alloc ?_ _)); exact BK513.out) hb)
                                  have n10_ := Aside0.mk (blk_below (g := gb522) (o := .cells #[.int .i64 t514, .slice Ao27 t515.length co27, .slice Ao28 t518.length co28] 37 (0, 0)) (by (with_reducible repeat (first | refine blk_drewN ?_ _ | refine blk_drew ?_ | refine blk_alloc ?_ _)); exact BK522.out) hb)
                                  have n11_ := Aside0.mk (below_step (by repeat ((with_reducible exact HB.out))) hb)
                                  clear HO_3
                                  clear HO_10
                                  clear HO_505001
                                  clear HO_505002
                                  clear HO_514001
                                  clear HO_514002
                                  clear HO_523001
                                  clear HO_523002
                                  clear BK504
                                  clear BK513
                                  clear BK522
                                  clear HB
                                  have HO_3 := n0_
                                  have HO_10 := n1_
                                  have HO_505001 := n2_
                                  have HO_505002 := n3_
                                  have HO_514001 := n4_
                                  have HO_514002 := n5_
                                  have HO_523001 := n6_
                                  have HO_523002 := n7_
                                  have BK504 := n8_
                                  have BK513 := n9_
                                  have BK522 := n10_
                                  have HB := n11_
                                  clear n0_ n1_ n2_ n3_ n4_ n5_ n6_ n7_ n8_ n9_ n10_ n11_
                                  (try clear hb)
                                  (try clear hb2)
                                  (try clear hk)
                                  (try clear hi)
                                  refine hK.out _ _ ⟨HS0_, HS1_, HS2_, HS3_⟩ (fun hHeld => ?_)
                                  clear hK K
                                  refine norm_ (a' := ?_) ?_ ?_
                                  rotate_left
                                  · show Act.put _ (some 80) _ = _
                                    simp only [Act.put, List.setIfInBounds_toArray, List.set_cons_zero, List.set_cons_succ, i64_w, i32_w]
                                    rfl
                                  refine pure_ (i := 15) (N := some 81) (v := ?_) (a' := ?_) #[true, true, true, true, true, true, true, true, true, true, true, true, true, true, true, true, false, false, false, false, false, false, false, false, false, false, false, false, false, false] rfl rfl (any_of HT_.out (by kernel_rfl)) (fun _ _ _ h => h) (Or.inl ⟨by rfl, ?_⟩) ?_ ?_
                                  rotate_left
                                  · intro w'
                                    go_simp
                                    with_reducible rfl
                                  rotate_left
                                  · simp only [Act.put, List.setIfInBounds_toArray, List.set_cons_zero, List.set_cons_succ, i64_w, i32_w]
                                    rfl
                                  refine pure_ (i := 16) (N := some 82) (v := ?_) (a' := ?_) #[true, true, true, true, true, true, true, true, true, true, true, true, true, true, true, true, true, false, false, false, false, false, false, false, false, false, false, false, false, false] rfl rfl (any_of HT_.out (by kernel_rfl)) (fun _ _ _ h => h) (Or.inl ⟨by rfl, ?_⟩) ?_ ?_
                                  rotate_left
                                  · intro w'
                                    go_simp
                                    with_reducible rfl
                                  rotate_left
                                  · simp only [Act.put, List.setIfInBounds_toArray, List.set_cons_zero, List.set_cons_succ, i64_w, i32_w]
                                    rfl
                                  refine pure_ (i := 17) (N := some 83) (v := ?_) (a' := ?_) #[true, true, true, true, true, true, true, true, true, true, true, true, true, true, true, true, true, true, false, false, false, false, false, false, false, false, false, false, false, false] rfl rfl (any_of HT_.out (by kernel_rfl)) (fun _ _ _ h => h) (Or.inl ⟨by rfl, ?_⟩) ?_ ?_
                                  rotate_left
                                  · intro w'
                                    go_simp
                                    with_reducible rfl
                                  rotate_left
                                  · simp only [Act.put, List.setIfInBounds_toArray, List.set_cons_zero, List.set_cons_succ, i64_w, i32_w]
                                    rfl
                                  refine pure_ (i := 18) (N := some 84) (v := ?_) (a' := ?_) #[true, true, true, true, true, true, true, true, true, true, true, true, true, true, true, true, true, true, true, false, false, false, false, false, false, false, false, false, false, false] rfl rfl (any_of HT_.out (by kernel_rfl)) (fun _ _ _ h => h) (Or.inl ⟨by rfl, ?_⟩) ?_ ?_
                                  rotate_left
                                  · intro w'
                                    go_simp
                                    with_reducible rfl
                                  rotate_left
                                  · simp only [Act.put, List.setIfInBounds_toArray, List.set_cons_zero, List.set_cons_succ, i64_w, i32_w]
                                    rfl
                                  refine pure_ (i := 19) (N := some 85) (v := ?_) (a' := ?_) #[true, true, true, true, true, true, true, true, true, true, true, true, true, true, true, true, true, true, true, true, false, false, false, false, false, false, false, false, false, false] rfl rfl (any_of HT_.out (by kernel_rfl)) (fun _ _ _ h => h) (Or.inl ⟨by rfl, ?_⟩) ?_ ?_
                                  rotate_left
                                  · intro w'
                                    go_simp
                                    with_reducible rfl
                                  rotate_left
                                  · simp only [Act.put, List.setIfInBounds_toArray, List.set_cons_zero, List.set_cons_succ, i64_w, i32_w]
                                    rfl
                                  refine pure_ (i := 20) (N := some 86) (v := ?_) (a' := ?_) #[true, true, true, true, true, true, true, true, true, true, true, true, true, true, true, true, true, true, true, true, true, false, false, false, false, false, false, false, false, false] rfl rfl (any_of HT_.out (by kernel_rfl)) (fun _ _ _ h => h) (Or.inl ⟨by rfl, ?_⟩) ?_ ?_
                                  rotate_left
                                  · intro w'
                                    go_simp
                                    with_reducible rfl
                                  rotate_left
                                  · simp only [Act.put, List.setIfInBounds_toArray, List.set_cons_zero, List.set_cons_succ, i64_w, i32_w]
                                    rfl
                                  refine pure_ (i := 22) (N := some 88) (v := ?_) (a' := ?_) #[true, true, true, true, true, true, true, true, true, true, true, true, true, true, true, true, true, true, true, true, true, false, true, false, false, false, false, false, false, false] rfl rfl (any_of HT_.out (by kernel_rfl)) (fun _ _ _ h => h) (Or.inl ⟨by rfl, ?_⟩) ?_ ?_
                                  rotate_left
                                  · intro w'
                                    go_simp
                                    with_reducible rfl
                                  rotate_left
                                  · simp only [Act.put, List.setIfInBounds_toArray, List.set_cons_zero, List.set_cons_succ, i64_w, i32_w]
                                    rfl
                                  refine pure_ (i := 23) (N := some 89) (v := ?_) (a' := ?_) #[true, true, true, true, true, true, true, true, true, true, true, true, true, true, true, true, true, true, true, true, true, false, true, true, false, false, false, false, false, false] rfl rfl (any_of HT_.out (by kernel_rfl)) (fun _ _ _ h => h) (Or.inl ⟨by rfl, ?_⟩) ?_ ?_
                                  rotate_left
                                  · intro w'
                                    go_simp
                                    with_reducible rfl
                                  rotate_left
                                  · simp only [Act.put, List.setIfInBounds_toArray, List.set_cons_zero, List.set_cons_succ, i64_w, i32_w]
                                    rfl
                                  refine pure_ (i := 24) (N := some 90) (v := ?_) (a' := ?_) #[true, true, true, true, true, true, true, true, true, true, true, true, true, true, true, true, true, true, true, true, true, false, true, true, true, false, false, false, false, false] rfl rfl (any_of HT_.out (by kernel_rfl)) (fun _ _ _ h => h) (Or.inl ⟨by rfl, ?_⟩) ?_ ?_
                                  rotate_left
                                  · intro w'
                                    go_simp
                                    with_reducible rfl
                                  rotate_left
                                  · simp only [Act.put, List.setIfInBounds_toArray, List.set_cons_zero, List.set_cons_succ, i64_w, i32_w]
                                    rfl
                                  refine pure_ (i := 25) (N := some 91) (v := ?_) (a' := ?_) #[true, true, true, true, true, true, true, true, true, true, true, true, true, true, true, true, true, true, true, true, true, false, true, true, true, true, false, false, false, false] rfl rfl (any_of HT_.out (by kernel_rfl)) (fun _ _ _ h => h) (Or.inl ⟨by rfl, ?_⟩) ?_ ?_
                                  rotate_left
                                  · intro w'
                                    go_simp
                                    with_reducible rfl
                                  rotate_left
                                  · simp only [Act.put, List.setIfInBounds_toArray, List.set_cons_zero, List.set_cons_succ, i64_w, i32_w]
                                    rfl
                                  refine take_ (i := 21) (N := some 87) (v := ?_) (a' := ?_) #[true, true, true, true, true, true, true, true, true, true, true, true, true, true, true, true, true, true, true, true, true, true, true, true, true, true, false, false, false, false] rfl rfl (take_ofW HT_.out HW_.out (by kernel_rfl)) (fun _ _ _ h => h) (Or.inl ⟨by rfl, ?_⟩) hHeld ?_ ?_
                                  rotate_left
                                  · rintro w' ⟨s0, s1, s2, s3⟩
                                    go_simp
                                    with_reducible rfl
                                  rotate_left
                                  · simp only [Act.put, List.setIfInBounds_toArray, List.set_cons_zero, List.set_cons_succ, i64_w, i32_w]
                                    rfl
                                  refine take_ (i := 26) (N := some 92) (v := ?_) (a' := ?_) #[true, true, true, true, true, true, true, true, true, true, true, true, true, true, true, true, true, true, true, true, true, true, true, true, true, true, true, false, false, false] rfl rfl (take_ofW HT_.out HW_.out (by kernel_rfl)) (fun _ _ _ h => h) (Or.inl ⟨by rfl, ?_⟩) hHeld ?_ ?_
                                  rotate_left
                                  · rintro w' ⟨s0, s1, s2, s3⟩
                                    go_simp
                                    with_reducible rfl
                                  rotate_left
                                  · simp only [Act.put, List.setIfInBounds_toArray, List.set_cons_zero, List.set_cons_succ, i64_w, i32_w]
                                    rfl
                                  refine one_ (i := 27) (N := some 93) #[true, true, true, true, true, true, true, true, true, true, true, true, true, true, true, true, true, true, true, true, true, true, true, true, true, true, true, true, false, false] rfl rfl (one_of HT_.out (by kernel_rfl)) (by decide) (fun K hK => ?_)
                                  refine goes_ Try.func42 (by kernel_rfl) rfl #[.string t496, .string (rdOf ByteArray.empty t493 x11_3)] (by rfl) rfl rfl (by (try simp only [List.map_toArray, List.map_cons, List.map_nil]); rfl) ?_
                                  with_reducible refine (spec_Capped.calls k3 t496 (rdOf ByteArray.empty t493 x11_3) t536 _ A66.out).mono ?_
                                  rintro e w71 ⟨rfl, hb⟩
                                  have HS0_ := (hb.cell (World.block_lt_of_cell? _ _ (hHeld.1))).trans (hHeld.1)
                                  have HS1_ := (hb.cell (World.block_lt_of_cell? _ _ (hHeld.2.1))).trans (hHeld.2.1)
                                  have HS2_ := (hb.cell (World.block_lt_of_cell? _ _ (hHeld.2.2.1))).trans (hHeld.2.2.1)
                                  have HS3_ := (hb.cell (World.block_lt_of_cell? _ _ (hHeld.2.2.2))).trans (hHeld.2.2.2)
                                  refine ⟨_, rfl, ?_⟩
                                  have n0_ := Aside0.mk (Kd.R_below (by (with_reducible repeat (first | apply Kd.R_alloc | apply Kd.R_drewN | apply Kd.R_drew)); exact HO_3.out) hb)
                                  have n1_ := Aside0.mk (Kd.R_below (by (with_reducible repeat (first | apply Kd.R_alloc | apply Kd.R_drewN | apply Kd.R_drew)); exact HO_10.out) hb)
                                  have n2_ := Aside0.mk (Kd.Q_below (by (with_reducible repeat (first | apply Kd.Q_alloc | apply Kd.Q_drewN | apply Kd.Q_drew)); exact HO_505001.out) hb)
                                  have n3_ := Aside0.mk (Kd.R_below (by (with_reducible repeat (first | apply Kd.R_alloc | apply Kd.R_drewN | apply Kd.R_drew)); exact HO_505002.out) hb)
                                  have n4_ := Aside0.mk (Kd.Q_below (by (with_reducible repeat (first | apply Kd.Q_alloc | apply Kd.Q_drewN | apply Kd.Q_drew)); exact HO_514001.out) hb)
                                  have n5_ := Aside0.mk (Kd.R_below (by (with_reducible repeat (first | apply Kd.R_alloc | apply Kd.R_drewN | apply Kd.R_drew)); exact HO_514002.out) hb)
                                  have n6_ := Aside0.mk (Kd.Q_below (by (with_reducible repeat (first | apply Kd.Q_alloc | apply Kd.Q_drewN | apply Kd.Q_drew)); exact HO_523001.out) hb)
                                  have n7_ := Aside0.mk (Kd.R_below (by (with_reducible repeat (first | apply Kd.R_alloc | apply Kd.R_drewN | apply Kd.R_drew)); exact HO_523002.out) hb)
                                  have n8_ := Aside0.mk (blk_below (g := gb504) (o := .cells #[.int .i64 t497, .slice Ao13 t498.length co13, .slice Ao14 t501.length co14] 37 (0, 0)) (by (with_reducible repeat (first | refine blk_drewN ?_ _ | refine blk_drew ?_ | refine blk_alloc ?_ _)); exact BK504.out) hb)
                                  have n9_ := Aside0.mk (blk_below (g := gb513) (o := .cells #[.int .i64 t505, .slice Ao20 t506.length co20, .slice Ao21 t509.length co21] 37 (0, 0)) (by (with_reducible repeat (first | refine blk_drewN ?_ _ | refine blk_drew ?_ | refine blk_alloc ?_ _)); exact BK513.out) hb)
                                  have n10_ := Aside0.mk (blk_below (g := gb522) (o := .cells #[.int .i64 t514, .slice Ao27 t515.length co27, .slice Ao28 t518.length co28] 37 (0, 0)) (by (with_reducible repeat (first | refine blk_drewN ?_ _ | refine blk_drew ?_ | refine blk_alloc ?_ _)); exact BK522.out) hb)
                                  have n11_ := Aside0.mk (below_step (by repeat ((with_reducible exact HB.out))) hb)
                                  clear HO_3
                                  clear HO_10
                                  clear HO_505001
                                  clear HO_505002
                                  clear HO_514001
                                  clear HO_514002
                                  clear HO_523001
                                  clear HO_523002
                                  clear BK504
                                  clear BK513
                                  clear BK522
                                  clear HB
                                  have HO_3 := n0_
                                  have HO_10 := n1_
                                  have HO_505001 := n2_
                                  have HO_505002 := n3_
                                  have HO_514001 := n4_
                                  have HO_514002 := n5_
                                  have HO_523001 := n6_
                                  have HO_523002 := n7_
                                  have BK504 := n8_
                                  have BK513 := n9_
                                  have BK522 := n10_
                                  have HB := n11_
                                  clear n0_ n1_ n2_ n3_ n4_ n5_ n6_ n7_ n8_ n9_ n10_ n11_
                                  (try clear hb)
                                  (try clear hb2)
                                  (try clear hk)
                                  (try clear hi)
                                  refine hK.out _ _ ⟨HS0_, HS1_, HS2_, HS3_⟩ (fun hHeld => ?_)
                                  clear hK K
                                  refine norm_ (a' := ?_) ?_ ?_
                                  rotate_left
                                  · show Act.put _ (some 93) _ = _
                                    simp only [Act.put, List.setIfInBounds_toArray, List.set_cons_zero, List.set_cons_succ, i64_w, i32_w]
                                    rfl
                                  refine pure_ (i := 28) (N := some 94) (v := ?_) (a' := ?_) #[true, true, true, true, true, true, true, true, true, true, true, true, true, true, true, true, true, true, true, true, true, true, true, true, true, true, true, true, true, false] rfl rfl (any_of HT_.out (by kernel_rfl)) (fun _ _ _ h => h) (Or.inl ⟨by rfl, ?_⟩) ?_ ?_
                                  rotate_left
                                  · intro w'
                                    go_simp
                                    with_reducible rfl
                                  rotate_left
                                  · simp only [Act.put, List.setIfInBounds_toArray, List.set_cons_zero, List.set_cons_succ, i64_w, i32_w]
                                    rfl
                                  refine pure_ (i := 29) (N := some 95) (v := ?_) (a' := ?_) #[true, true, true, true, true, true, true, true, true, true, true, true, true, true, true, true, true, true, true, true, true, true, true, true, true, true, true, true, true, true] rfl rfl (any_of HT_.out (by kernel_rfl)) (fun _ _ _ h => h) (Or.inl ⟨by rfl, ?_⟩) ?_ ?_
                                  rotate_left
                                  · intro w'
                                    go_simp
                                    with_reducible rfl
                                  rotate_left
                                  · simp only [Act.put, List.setIfInBounds_toArray, List.set_cons_zero, List.set_cons_succ, i64_w, i32_w]
                                    rfl
                                  refine done_ (done_of HT_.out (by kernel_rfl)) ?_
                                  try go_wp2
                                  go_roundg k3
                                  case measure => have := HJ7.out; have := HJ30.out; have := HK3.out; omega
                                  case rel => exact ⟨(wrap64 (x11_3 + 1)), (by rfl), H', ⟨by have := HJ7.out; have := HJ30.out; have := HK3.out; omega⟩, ⟨by (with_reducible repeat (first | apply Kd.R_alloc | apply Kd.R_drewN | apply Kd.R_drew)); exact HO_3.out⟩, ⟨by (with_reducible repeat (first | apply Kd.R_alloc | apply Kd.R_drewN | apply Kd.R_drew)); exact HO_10.out⟩, ⟨by (with_reducible repeat (first | apply Kd.Q_alloc | apply Kd.Q_drewN | apply Kd.Q_drew)); exact HO_505001.out⟩, ⟨by (with_reducible repeat (first | apply Kd.R_alloc | apply Kd.R_drewN | apply Kd.R_drew)); exact HO_505002.out⟩, ⟨by (with_reducible repeat (first | apply Kd.Q_alloc | apply Kd.Q_drewN | apply Kd.Q_drew)); exact HO_514001.out⟩, ⟨by (with_reducible repeat (first | apply Kd.R_alloc | apply Kd.R_drewN | apply Kd.R_drew)); exact HO_514002.out⟩, ⟨by (with_reducible repeat (first | apply Kd.Q_alloc | apply Kd.Q_drewN | apply Kd.Q_drew)); exact HO_523001.out⟩, ⟨by (with_reducible repeat (first | apply Kd.R_alloc | apply Kd.R_drewN | apply Kd.R_drew)); exact HO_523002.out⟩, ⟨by (with_reducible repeat (first | refine blk_drewN ?_ _ | refine blk_drew ?_ | refine blk_alloc ?_ _)); exact BK504.out⟩, ⟨by (with_reducible repeat (first | refine blk_drewN ?_ _ | refine blk_drew ?_ | refine blk_alloc ?_ _)); exact BK513.out⟩, ⟨by (with_reducible repeat (first | refine blk_drewN ?_ _ | refine blk_drew ?_ | refine blk_alloc ?_ _)); exact BK522.out⟩, ⟨by repeat ((with_reducible exact HB.out))⟩⟩
                                · rw [if_neg c67] at H
                                  have c67b0 : ((rd t528 x11_3) == t536) = false := beq_eq_false_iff_ne.mpr c67
                                  have c67b1 : ((rd t528 x11_3) != t536) = true := bne_iff_ne.mpr c67
                                  exact absurd ((Option.some.inj H).trans HTRUE_.out) (by decide)
                              · rw [if_neg c65] at H
                                have c65b0 : ((rd t528 x11_3) == t533) = false := beq_eq_false_iff_ne.mpr c65
                                have c65b1 : ((rd t528 x11_3) != t533) = true := bne_iff_ne.mpr c65
                                exact absurd ((Option.some.inj H).trans HTRUE_.out) (by decide)
                            · rw [if_neg c63] at H
                              exact absurd H (by simp)
                          · rw [if_neg c62] at H
                            exact absurd H (by simp)
                      · rw [if_neg c60] at H
                        have c60b0 : decide (x11_3 < (t493.length : Int)) = false := decide_eq_false c60
                        clear c60
                        obtain rfl := Option.some.inj H
                        obtain ⟨Ao72, co72, eo72⟩ := Kd.R_slice HO_10.out
                        subst eo72
                        go_wp2
                        go_ret
                        exact ⟨by rfl, by repeat ((with_reducible exact HB.out))⟩

/-- THE ONE PURE STATEMENT of laws_FnBatch: yours. -/
def laws_FnBatch.Pure : Prop := ∀ (l0 : List Int), l0.length ≤ maxLen → l0.length * 1 ≤ 140737488351232 → (∀ x ∈ l0, (Lit.int .u8 x).wf = true) → ∃ k, laws_FnBatch.f k l0 = some true
theorem laws_FnBatch.walk (P : laws_FnBatch.Pure) (a0 : Option Addr) (len0 cap0 : Nat) (z0 : List Int) (w : World) (w0 : (a0 = none ∧ len0 = 0 ∧ cap0 = 0 ∧ z0 = []) ∨ ∃ x, a0 = some x ∧ len0 ≤ cap0 ∧ cap0 ≤ maxLen ∧ z0.length = cap0 ∧ (∀ i, i < z0.length → w.cell? (x.add i) = some (.int .u8 (z0.getD i 0))) ∧ ∀ n ∈ z0, (Lit.int .u8 n).wf = true) (y0 : len0 * 1 ≤ 140737488351232) :
    Calls Try.prog 8 #[.slice a0 len0 cap0] w fun e w' => e = .returned (.bool true) ∧ Below w.heap.size w w' := by
  obtain ⟨l0, rfl, hr0, hm0, hw0, hc0⟩ := ReadsInt.ofRowC w0
  obtain ⟨k, h⟩ := P l0 hm0 y0 hw0
  refine (laws_FnBatch.calls k _ _ l0 true w (Kd.C_of_reads (d := (0 : Int)) (h1 := fun _ => rfl) hr0) hc0 h).mono ?_
  rintro e w' ⟨rfl, hd⟩
  exact ⟨rfl, hd⟩

end Go.Proofs.Ytljmhhadclgegaa.PFnBatch

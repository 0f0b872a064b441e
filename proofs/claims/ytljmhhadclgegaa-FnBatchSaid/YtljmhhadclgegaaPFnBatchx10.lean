-- Laid by a program of this session: what the print of the kit writes, and contracts of the session where the print takes no function. Lean checks it.
import Derived.Test.YtljmhhadclgegaaPFnBatchx0
import Derived.Test.YtljmhhadclgegaaPFnBatchx2
import Derived.Test.YtljmhhadclgegaaPFnBatchx7
import Derived.Test.YtljmhhadclgegaaPFnBatchx8
import Derived.Test.YtljmhhadclgegaaPFnBatchx9
namespace Go.Proofs.Ytljmhhadclgegaa.PFnBatch
open Go.RowKit Go.Proofs.YtljmhhadclgegaaW.PrintWords Go.Proofs.YtljmhhadclgegaaW.PrintLast Go.Proofs.YtljmhhadclgegaaW.PrintMore
attribute [local go_sem] max2_int min2_int max_two min_two max_three min_three max_four min_four   -- for this text's walks alone
set_option linter.unusedVariables false
set_option linter.unusedSimpArgs false

/-! ### spec_l01Cur_planes: function 69 -/
mutual
def spec_l01Cur_planes.j1 : Nat → List ByteArray → List Int → Int → Int → Option (Int × List Int × List Int × Int × Int)
  | 0, _, _, _, _ => none
  | k + 1, x3, x1000, x1001, x1002 => (spec_PlanesOf.f k x3).bind fun bt386 => ((spec_l01Cur_pick.f x1000 x1001 x1002 12).bind fun bt395 => (if bt395.1 = 0 then ((spec_l01Cur_pick.f x1000 bt395.2.1 bt395.2.2 160).bind fun bt398 => ((spec_l01Cur_bits.f k x1000 bt398.2.1 bt398.2.2).bind fun bt401 => (if 0 ≤ bt398.1 then (if bt398.1 < (bt386.2.2.1.length : Int) then (some (bt386.1, bt386.2.1, (bt386.2.2.1.set (bt398.1 : Int).toNat bt401.1), bt401.2.1, bt401.2.2)) else (none)) else (none)))) else (if bt395.1 = 1 then ((spec_l01Cur_raw.f x1000 bt395.2.1 bt395.2.2).bind fun bt405 => ((some (([bt405.1, wrap64 (bt386.1 + 1), 64] : List Int) : List Int)).bind fun y408 => ((spec_l01Cur_pick.f x1000 bt405.2.1 bt405.2.2 3).bind fun bt411 => (if 0 ≤ bt411.1 then (if bt411.1 < (y408.length : Int) then (some (rd y408 bt411.1, bt386.2.1, bt386.2.2.1, bt411.2.1, bt411.2.2)) else (none)) else (none))))) else (if bt395.1 = 2 then (if bt386.2.1.length < 17592186044416 then ((some (bt386.2.1 ++ [0] : List Int)).bind fun y415 => ((spec_l01Cur_pick.f x1000 bt395.2.1 bt395.2.2 2).bind fun bt418 => (if 0 ≤ bt418.1 then (if bt418.1 ≤ (y415.length : Int) then (some (bt386.1, (y415.drop (bt418.1 : Int).toNat), bt386.2.2.1, bt418.2.1, bt418.2.2)) else (none)) else (none)))) else (none)) else (if bt395.1 = 3 then ((spec_l01Cur_pick.f x1000 bt395.2.1 bt395.2.2 6).bind fun bt424 => ((spec_l01Cur_bits.f k x1000 bt424.2.1 bt424.2.2).bind fun bt427 => (if 0 ≤ bt424.1 then (if bt424.1 < (bt386.2.1.length : Int) then (some (bt386.1, (bt386.2.1.set (bt424.1 : Int).toNat bt427.1), bt386.2.2.1, bt427.2.1, bt427.2.2)) else (none)) else (none)))) else (some (bt386.1, bt386.2.1, bt386.2.2.1, bt395.2.1, bt395.2.2)))))))
def spec_l01Cur_planes.l0 : Nat → List ByteArray → List Int → Int → Int → Option (Int × List Int × List Int × Int × Int)
  | 0, _, _, _, _ => none
  | k + 1, x3, x1000, x1001, x1002 => if (x3.length : Int) < 64 then ((spec_l01Cur_word.f k x1000 x1001 x1002).bind fun bt380 => (if x3.length < 8796093022208 then (spec_l01Cur_planes.l0 k (x3 ++ [bt380.1]) x1000 bt380.2.1 bt380.2.2) else (none))) else (spec_l01Cur_planes.j1 k x3 x1000 x1001 x1002)
end
def spec_l01Cur_planes.f (k : Nat) (s0_0 : List Int) (s0_1 : Int) (s0_2 : Int) : Option (Int × List Int × List Int × Int × Int) := (spec_l01Cur_words.f k s0_0 s0_1 s0_2 12).bind fun bt372 => ((spec_l01Cur_once.f s0_0 bt372.2.1 bt372.2.2 9).bind fun bt377 => (if bt377.1 = true then (spec_l01Cur_planes.l0 k bt372.1 s0_0 bt377.2.1 bt377.2.2) else (spec_l01Cur_planes.j1 k bt372.1 s0_0 bt377.2.1 bt377.2.2)))
theorem spec_l01Cur_planes.mono_l : ∀ k, (∀ y0 y1 y2 y3, LeO (spec_l01Cur_planes.j1 k y0 y1 y2 y3) (spec_l01Cur_planes.j1 (k + 1) y0 y1 y2 y3)) ∧ (∀ y0 y1 y2 y3, LeO (spec_l01Cur_planes.l0 k y0 y1 y2 y3) (spec_l01Cur_planes.l0 (k + 1) y0 y1 y2 y3))
  | 0 => ⟨fun _ _ _ _ r h => by simp [spec_l01Cur_planes.j1] at h, fun _ _ _ _ r h => by simp [spec_l01Cur_planes.l0] at h⟩
  | k + 1 => by
    obtain ⟨ih0, ih1⟩ := spec_l01Cur_planes.mono_l k
    refine ⟨?_, ?_⟩
    · intro y0 y1 y2 y3
      unfold spec_l01Cur_planes.j1
      repeat' first | (with_reducible exact spec_PlanesOf.mono _ _) | (with_reducible exact spec_l01Cur_bits.mono _ _ _ _) | (with_reducible exact LeO.refl _) | (with_reducible refine LeO.ite ?_ ?_) | (with_reducible refine LeO.bind ?_ (fun _ => ?_))
    · intro y0 y1 y2 y3
      unfold spec_l01Cur_planes.l0
      repeat' first | (with_reducible exact ih0 _ _ _ _) | (with_reducible exact ih1 _ _ _ _) | (with_reducible exact spec_l01Cur_word.mono _ _ _ _) | (with_reducible exact LeO.refl _) | (with_reducible refine LeO.ite ?_ ?_) | (with_reducible refine LeO.bind ?_ (fun _ => ?_))
theorem spec_l01Cur_planes.mono : ∀ a0 a1 a2 k, LeO (spec_l01Cur_planes.f k a0 a1 a2) (spec_l01Cur_planes.f (k + 1) a0 a1 a2) := by
  intro a0 a1 a2 k
  obtain ⟨ih0, ih1⟩ := spec_l01Cur_planes.mono_l k
  unfold spec_l01Cur_planes.f
  repeat' first | (with_reducible exact ih0 _ _ _ _) | (with_reducible exact ih1 _ _ _ _) | (with_reducible exact spec_l01Cur_words.mono _ _ _ _ _) | (with_reducible exact LeO.refl _) | (with_reducible refine LeO.ite ?_ ?_) | (with_reducible refine LeO.bind ?_ (fun _ => ?_))
def spec_l01Cur_planes.T8 : Bool × List (List Nat × List Nat) := (true, [([], []), ([0], [0]), ([], []), ([2], [2]), ([], []), ([4, 3], [4]), ([1, 3, 0, 1, 2, 3, 4, 5], [1, 3]), ([6, 5, 5, 0, 1, 2, 3, 4, 5], [5, 6])])
def spec_l01Cur_planes.B8 : List Nat := [0, 1, 0, 4, 0, 28, 63, 127]
theorem spec_l01Cur_planes.tab8 : rtab .any (opsOf Try.f69 8) = spec_l01Cur_planes.T8 := by kernel_rfl
theorem spec_l01Cur_planes.bits8 : waitsOk spec_l01Cur_planes.T8.2 spec_l01Cur_planes.B8 = true := by kernel_rfl
def spec_l01Cur_planes.T10 : Bool × List (List Nat × List Nat) := (true, [([], []), ([0], [0]), ([], []), ([2], [2]), ([3], [3]), ([1, 4], [1, 4]), ([], []), ([6, 1], [6]), ([5, 7], [5, 7]), ([8], [8]), ([0, 1, 2, 3, 4, 5, 6, 7, 8, 9], []), ([10, 9, 7, 0, 1, 2, 3, 4, 5, 6, 7, 8, 9], [9, 10])])
def spec_l01Cur_planes.B10 : List Nat := [0, 1, 0, 4, 12, 31, 0, 67, 255, 511, 1023, 2047]
theorem spec_l01Cur_planes.tab10 : rtab .any (opsOf Try.f69 10) = spec_l01Cur_planes.T10 := by kernel_rfl
theorem spec_l01Cur_planes.bits10 : waitsOk spec_l01Cur_planes.T10.2 spec_l01Cur_planes.B10 = true := by kernel_rfl
def spec_l01Cur_planes.T14 : Bool × List (List Nat × List Nat) := (true, [([], []), ([0], [0]), ([], []), ([2], [2]), ([], []), ([4, 3], [4]), ([1, 3, 0, 1, 2, 3, 4, 5], [1, 3]), ([6, 5, 5, 0, 1, 2, 3, 4, 5], [5, 6])])
def spec_l01Cur_planes.B14 : List Nat := [0, 1, 0, 4, 0, 28, 63, 127]
theorem spec_l01Cur_planes.tab14 : rtab .any (opsOf Try.f69 14) = spec_l01Cur_planes.T14 := by kernel_rfl
theorem spec_l01Cur_planes.bits14 : waitsOk spec_l01Cur_planes.T14.2 spec_l01Cur_planes.B14 = true := by kernel_rfl
theorem b69_ {w : World} {g : Nat} {t : TypeId} {cs : Array Value} {v : Value} (h : w.heap[g]? = some (.cells cs t (0, 0))) (i : Nat) (hv : cs[i]? = some v) : w.cell? ⟨g, i, none⟩ = some v := (blk_cell h i).trans hv
set_option maxHeartbeats 8000000 in
set_option maxRecDepth 100000 in
theorem spec_l01Cur_planes.calls (k : Nat) (g : Nat) (s0_0 : List Int) (s0_1 : Int) (s0_2 : Int) (r1 : Int) (r2 : List Int) (r3 : List Int) (r4 : Int) (r5 : Int) (w0 w : World) (hI : IsS79 w0 w g s0_0 s0_1 s0_2) (hB : Below w0.heap.size w0 w) (h : spec_l01Cur_planes.f k s0_0 s0_1 s0_2 = some (r1, r2, r3, r4, r5)) :
    Calls Try.prog 69 #[.pointer (some ⟨g, 0, none⟩)] w fun e w' => ∃ v1_ v2_ : Value, e = .returned (.agg #[.int .i64 r1, v1_, v2_]) ∧ Kd.Q (Kd.int .u64) 30 w' w.heap.size (fun k_ => some k_ ≠ (v2_ : Value).ownBlock) v1_ r2 ∧ Kd.R (Kd.int .u64) 30 w' w.heap.size (fun k_ => some k_ ≠ (v1_ : Value).ownBlock) v2_ r3 ∧ IsS79 w0 w' g s0_0 r4 r5 ∧ Below w0.heap.size w0 w' ∧ KeepBut w w' g none := by
 have hu37 := Try.underlying37
 have HI0 := Aside0.mk hI
 have HK := Aside0.mk (KeepBut.refl w g none)
 have HL := Aside0.mk hB.size
 clear hI
 have HW0 := Aside0.mk hB.size
 have HB := Aside0.mk hB
 clear hB
 have H : ((spec_l01Cur_words.f k s0_0 s0_1 s0_2 12).bind fun bt372 => ((spec_l01Cur_once.f s0_0 bt372.2.1 bt372.2.2 9).bind fun bt377 => (if bt377.1 = true then (spec_l01Cur_planes.l0 k bt372.1 s0_0 bt377.2.1 bt377.2.2) else (spec_l01Cur_planes.j1 k bt372.1 s0_0 bt377.2.1 bt377.2.2)))) = some (r1, r2, r3, r4, r5) := h
 clear h
 replace H := Option.bind_eq_some_iff.mp H
 obtain ⟨⟨t372, t375, t376⟩, A20, H⟩ := H
 replace H : ((spec_l01Cur_once.f s0_0 t375 t376 9).bind fun bt377 => (if bt377.1 = true then (spec_l01Cur_planes.l0 k t372 s0_0 bt377.2.1 bt377.2.2) else (spec_l01Cur_planes.j1 k t372 s0_0 bt377.2.1 bt377.2.2))) = some (r1, r2, r3, r4, r5) := H
 have A2 := Aside0.mk A20
 clear A20
 replace H := Option.bind_eq_some_iff.mp H
 obtain ⟨⟨t377, t378, t379⟩, A30, H⟩ := H
 replace H : (if t377 = true then (spec_l01Cur_planes.l0 k t372 s0_0 t378 t379) else (spec_l01Cur_planes.j1 k t372 s0_0 t378 t379)) = some (r1, r2, r3, r4, r5) := H
 have A3 := Aside0.mk A30
 clear A30
 have HC4 := Aside0.mk H
 clear H
 go_enter Try.func69, Try.ntmps69
 go_upto_if 9 with (first | ((with_reducible refine gate_dst (N := 2) rfl ?_); refine box_event ?hg (N := 2) ?hd (cs := #[.int .i64 0, .slice none 0 0, .slice none 0 0]) (t := 37) ?hr ?_; (case hd => rfl); (case hg => rfl); (case hr => (go_simp; done)); intro gb371 hg w5 hbox hb; have n0_ := Aside0.mk (IsS79.below (by repeat ((with_reducible exact HI0.out))) hb); have n1_ := Aside0.mk (KeepBut.trans (by repeat ((with_reducible exact HK.out))) (KeepBut.of_below hb g none) (.inl rfl)); have n2_ := Aside0.mk (below_step HB.out hb); have n3_ := Aside0.mk (hbox); have n4_ := Aside0.mk ((by rw [hg]; exact (keep_size (w := w) (g := g) (row := none) (by repeat ((with_reducible exact HK.out)))) : w.heap.size ≤ gb371)); have n5_ := Aside0.mk ((Nat.le_trans HW0.out (by rw [hg]; exact (keep_size (w := w) (g := g) (row := none) (by repeat ((with_reducible exact HK.out)))) : w.heap.size ≤ gb371) : w0.heap.size ≤ gb371)); have n6_ := Aside0.mk ((by rw [hg]; exact Nat.ne_of_lt (IsS79.lt (show IsS79 w0 _ g s0_0 s0_1 s0_2 from by repeat ((with_reducible exact HI0.out)))) : g ≠ gb371)); have n7_ := Aside0.mk ((by rw [hg]; exact Nat.ne_of_gt (IsS79.lt (show IsS79 w0 _ g s0_0 s0_1 s0_2 from by repeat ((with_reducible exact HI0.out)))) : gb371 ≠ g)); clear HI0; clear HK; clear HB; have HI0 := n0_; have HK := n1_; have HB := n2_; have BK371 := n3_; have GW371 := n4_; have GE371 := n5_; have NB0_371 := n6_; have NB371_0 := n7_; clear n0_ n1_ n2_ n3_ n4_ n5_ n6_ n7_; clear hb hbox hg) | ((with_reducible refine gate_callee (f := 66) rfl ?_); refine goesL_ (some 7) rfl rfl Try.func66 (by kernel_rfl) rfl #[.pointer (some ⟨g, 0, none⟩), .int .i64 12] rfl (by (try simp only [List.map_toArray, List.map_cons, List.map_nil]); rfl) ?_; (with_reducible refine (spec_l01Cur_words.calls k g s0_0 s0_1 s0_2 12 t372 t375 t376 w0 _ ?side1 ?side2 A2.out).mono ?_); (case side1 => repeat ((with_reducible exact HI0.out))); (case side2 => repeat ((with_reducible exact HB.out))); rintro e w6 ⟨v373, rfl, ho0, hi, hb, hk⟩; refine ⟨_, rfl, ?_⟩; have n0_ := Aside0.mk (KeepBut.blk hk (g' := gb371) (o := .cells #[.int .i64 0, .slice none 0 0, .slice none 0 0] 37 (0, 0)) BK371.out NB371_0.out (by simp)); have n1_ := Aside0.mk (Kd.R_lower ho0 (keep_size (w := w) (g := g) (row := none) (by repeat ((with_reducible exact HK.out))))); have n2_ := Aside0.mk (KeepBut.trans (by repeat ((with_reducible exact HK.out))) hk (.inl rfl)); have n3_ := Aside0.mk (hb); have n4_ := Aside0.mk (hi); clear BK371; clear HK; clear HB; clear HI0; have BK371 := n0_; have HO374 := n1_; have HK := n2_; have HB := n3_; have HI0 := n4_; clear n0_ n1_ n2_ n3_ n4_; (try clear hb); (try clear hb2); (try clear hk); (try clear hi); (try clear ho0)) | ((with_reducible refine gate_callee (f := 77) rfl ?_); refine goesL_ (some 9) rfl rfl Try.func77 (by kernel_rfl) rfl #[.pointer (some ⟨g, 0, none⟩), .int .i64 9] rfl (by (try simp only [List.map_toArray, List.map_cons, List.map_nil]); rfl) ?_; (with_reducible refine (spec_l01Cur_once.calls g s0_0 t375 t376 9 t377 t378 t379 w0 _ ?side1 ?side2 A3.out).mono ?_); (case side1 => repeat ((with_reducible exact HI0.out))); (case side2 => repeat ((with_reducible exact HB.out))); rintro e w7 ⟨rfl, hi, hb, hk⟩; refine ⟨_, rfl, ?_⟩; have n0_ := Aside0.mk (KeepBut.blk hk (g' := gb371) (o := .cells #[.int .i64 0, .slice none 0 0, .slice none 0 0] 37 (0, 0)) BK371.out NB371_0.out (by simp)); have n1_ := Aside0.mk (Kd.R_mono (Kd.R_keep (IsS79.apart (show IsS79 w0 _ g s0_0 t375 t376 from by repeat ((with_reducible exact HI0.out))) (by (with_reducible repeat (first | apply Kd.R_alloc | apply Kd.R_drewN | apply Kd.R_drew)); exact HO374.out) (by decide)) hk (fun _ h => h.2)) (fun _ h => h.1)); have n2_ := Aside0.mk (KeepBut.trans (by repeat ((with_reducible exact HK.out))) hk (.inl rfl)); have n3_ := Aside0.mk (hb); have n4_ := Aside0.mk (hi); clear BK371; clear HO374; clear HK; clear HB; clear HI0; have BK371 := n0_; have HO374 := n1_; have HK := n2_; have HB := n3_; have HI0 := n4_; clear n0_ n1_ n2_ n3_ n4_; (try clear hb); (try clear hb2); (try clear hk); (try clear hi)))
 (try simp only [Act.put, List.setIfInBounds_toArray, List.set_cons_zero, List.set_cons_succ])
 go_cut [3] (fun v3 wc => ∃ (kq : Nat) (x3_3 : List ByteArray) (x1001_3 : Int) (x1002_3 : Int), Aside0 (spec_l01Cur_planes.j1 kq x3_3 s0_0 x1001_3 x1002_3 = some (r1, r2, r3, r4, r5)) ∧ Aside0 (kq ≤ k) ∧ Aside0 (Kd.R Kd.string 9 wc w.heap.size (fun _ => True) v3 x3_3) ∧ Aside0 (wc.heap[gb371]? = some (.cells #[.int .i64 0, (.slice none 0 0), (.slice none 0 0)] 37 (0, 0))) ∧ Aside0 (IsS79 w0 wc g s0_0 x1001_3 x1002_3) ∧ Aside0 (KeepBut w wc g none) ∧ Aside0 (Below w0.heap.size w0 wc))
 case first =>
  have H := HC4.out
  clear HC4
  by_cases c8 : t377 = true
  rotate_left
  ·
   replace c8 := Bool.eq_false_iff.mpr c8
   subst c8
   have H1 : (spec_l01Cur_planes.j1 k t372 s0_0 t378 t379) = some (r1, r2, r3, r4, r5) := by rw [if_neg (show ¬ (false = true) by decide)] at H; exact H
   clear H
   have H := H1
   clear H1
   have H' := Aside0.mk H
   clear H
   go_wp2
   go_meet
   case rel => exact ⟨_, (t372), (t378), (t379), H', ⟨by omega⟩, ⟨by (with_reducible repeat (first | apply Kd.R_alloc | apply Kd.R_drewN | apply Kd.R_drew)); exact HO374.out⟩, ⟨by (with_reducible repeat (first | refine blk_drewN ?_ _ | refine blk_drew ?_ | refine blk_alloc ?_ _)); exact BK371.out⟩, ⟨by repeat ((with_reducible exact HI0.out))⟩, ⟨by repeat ((with_reducible exact HK.out))⟩, ⟨by repeat ((with_reducible exact HB.out))⟩⟩
  subst c8
  have H1 : (spec_l01Cur_planes.l0 k t372 s0_0 t378 t379) = some (r1, r2, r3, r4, r5) := by rw [if_pos rfl] at H; exact H
  clear H
  have H := H1
  clear H1
  have H' := Aside0.mk H
  clear H
  go_wp2
  go_loopg [3] k (fun kq v3 w' => ∃ (x3_1 : List ByteArray) (x1001_1 : Int) (x1002_1 : Int), Aside0 (spec_l01Cur_planes.l0 kq x3_1 s0_0 x1001_1 x1002_1 = some (r1, r2, r3, r4, r5)) ∧ Aside0 (kq ≤ k) ∧ Aside0 (Kd.R Kd.string 9 w' w.heap.size (fun _ => True) v3 x3_1) ∧ Aside0 (w'.heap[gb371]? = some (.cells #[.int .i64 0, (.slice none 0 0), (.slice none 0 0)] 37 (0, 0))) ∧ Aside0 (IsS79 w0 w' g s0_0 x1001_1 x1002_1) ∧ Aside0 (KeepBut w w' g none) ∧ Aside0 (Below w0.heap.size w0 w'))
  case atStart => exact ⟨(t372), (t378), (t379), H', ⟨Nat.le_refl _⟩, ⟨by (with_reducible repeat (first | apply Kd.R_alloc | apply Kd.R_drewN | apply Kd.R_drew)); exact HO374.out⟩, ⟨by (with_reducible repeat (first | refine blk_drewN ?_ _ | refine blk_drew ?_ | refine blk_alloc ?_ _)); exact BK371.out⟩, ⟨by repeat ((with_reducible exact HI0.out))⟩, ⟨by repeat ((with_reducible exact HK.out))⟩, ⟨by repeat ((with_reducible exact HB.out))⟩⟩
  case round =>
   clear H'
   try clear p2
   try clear c6
   try clear c7
   try clear c8
   obtain ⟨x3_1, x1001_1, x1002_1, HA, HK1, HO_3, BK371, HI0, HK, HB⟩ := hrel
   cases gk with
   | zero => exact absurd HA.out (by simp [spec_l01Cur_planes.l0])
   | succ k1 =>
    have H := HA.out
    clear HA
    simp only [spec_l01Cur_planes.l0] at H
    by_cases c9 : (x3_1.length : Int) < 64
    rotate_left
    ·
     rw [if_neg c9] at H
     have c9b0 : decide ((x3_1.length : Int) < 64) = false := decide_eq_false c9
     have c9b1 : decide (x3_1.length < 64) = false := decide_eq_false (by omega)
     clear c9
     (skip)
     have H' := Aside0.mk H
     clear H
     obtain ⟨Ao15, co15, eo15⟩ := Kd.R_slice HO_3.out
     subst eo15
     go_wp2
     go_meet
     case rel => exact ⟨_, (x3_1), (x1001_1), (x1002_1), H', ⟨by have := HK1.out; omega⟩, ⟨by (with_reducible repeat (first | apply Kd.R_alloc | apply Kd.R_drewN | apply Kd.R_drew)); exact HO_3.out⟩, ⟨by (with_reducible repeat (first | refine blk_drewN ?_ _ | refine blk_drew ?_ | refine blk_alloc ?_ _)); exact BK371.out⟩, ⟨by repeat ((with_reducible exact HI0.out))⟩, ⟨by repeat ((with_reducible exact HK.out))⟩, ⟨by repeat ((with_reducible exact HB.out))⟩⟩
    rw [if_pos c9] at H
    have c9b0 : decide ((x3_1.length : Int) < 64) = true := decide_eq_true c9
    have c9b1 : decide (x3_1.length < 64) = true := decide_eq_true (by omega)
    clear c9
    (skip)
    replace H := Option.bind_eq_some_iff.mp H
    obtain ⟨⟨t380, t381, t382⟩, A100, H⟩ := H
    replace H : (if x3_1.length < 8796093022208 then (spec_l01Cur_planes.l0 k1 (x3_1 ++ [t380]) s0_0 t381 t382) else (none)) = some (r1, r2, r3, r4, r5) := H
    have A10 := Aside0.mk A100
    clear A100
    by_cases c11 : x3_1.length < 8796093022208
    rotate_left
    ·
     rw [if_neg c11] at H
     exact absurd H (by simp)
    rw [if_pos c11] at H
    have LMc11 := Aside0.mk c11
    clear c11
    obtain ⟨y383, hy383⟩ : ∃ y_ : List ByteArray, y_ = (x3_1 ++ [t380]) := ⟨_, rfl⟩
    replace H : (spec_l01Cur_planes.l0 k1 y383 s0_0 t381 t382) = some (r1, r2, r3, r4, r5) := by (rw [hy383]; with_reducible exact H)
    have Ny383 := Aside0.mk hy383
    clear hy383
    have H' := Aside0.mk H
    clear H
    obtain ⟨Ao12, co12, eo12⟩ := Kd.R_slice HO_3.out
    subst eo12
    go_wp2_with (first | ((with_reducible refine gate_callee (f := 68) rfl ?_); refine goesL_ (some 15) rfl rfl Try.func68 (by kernel_rfl) rfl #[.pointer (some ⟨g, 0, none⟩)] rfl (by (try simp only [List.map_toArray, List.map_cons, List.map_nil]); rfl) ?_; (with_reducible refine (spec_l01Cur_word.calls k1 g s0_0 x1001_1 x1002_1 t380 t381 t382 w0 _ ?side1 ?side2 A10.out).mono ?_); (case side1 => repeat ((with_reducible exact HI0.out))); (case side2 => repeat ((with_reducible exact HB.out))); rintro e w13 ⟨rfl, hi, hb, hk⟩; refine ⟨_, rfl, ?_⟩; have n0_ := Aside0.mk (Kd.R_mono (Kd.R_keep (IsS79.apart (show IsS79 w0 _ g s0_0 x1001_1 x1002_1 from by repeat ((with_reducible exact HI0.out))) (by (with_reducible repeat (first | apply Kd.R_alloc | apply Kd.R_drewN | apply Kd.R_drew)); exact HO_3.out) (by decide)) hk (fun _ h => h.2)) (fun _ h => h.1)); have n1_ := Aside0.mk (KeepBut.blk hk (g' := gb371) (o := .cells #[.int .i64 0, .slice none 0 0, .slice none 0 0] 37 (0, 0)) (by (with_reducible repeat (first | refine blk_drewN ?_ _ | refine blk_drew ?_ | refine blk_alloc ?_ _)); exact BK371.out) NB371_0.out (by simp)); have n2_ := Aside0.mk (KeepBut.trans (by repeat ((with_reducible exact HK.out))) hk (.inl rfl)); have n3_ := Aside0.mk (hb); have n4_ := Aside0.mk (hi); clear HO_3; clear BK371; clear HK; clear HB; clear HI0; have HO_3 := n0_; have BK371 := n1_; have HK := n2_; have HB := n3_; have HI0 := n4_; clear n0_ n1_ n2_ n3_ n4_; (try clear hb); (try clear hb2); (try clear hk); (try clear hi)) | ((with_reducible refine gate_builtin (b := .append) (xs := #[.tmp 13, .tmp 16]) rfl ?_); at_builtin; refine Kd.R_append Kd.string w.heap.size rfl (.tmp 13) (.tmp 16) 34 9 (.string ⟨#[]⟩) 16 rfl Try.underlying34 info9 rfl (by decide) (by omega) (.slice Ao12 x3_1.length co12) x3_1 t380 [.string t380] (fun _ => True) (fun _ => False) rfl rfl ?aP (fun _ hk => hk.elim) ?aF ?aO (Below.refl _ _) ?aS ?aL ?_; (case aP => exact rfl); (case aF => exact (fun _ _ => trivial)); (case aO => exact (by (with_reducible repeat (first | apply Kd.R_alloc | apply Kd.R_drewN | apply Kd.R_drew)); exact HO_3.out)); (case aS => exact (keep_size (w := w) (g := g) (row := none) (by repeat ((with_reducible exact HK.out))))); (case aL => have := LMc11.out; omega); intro v384 w14 ho hb hg hat; rw [← Ny383.out] at ho; have n0_ := Aside0.mk (blk_grown (g := gb371) (o := .cells #[.int .i64 0, .slice none 0 0, .slice none 0 0] 37 (0, 0)) (by (with_reducible repeat (first | refine blk_drewN ?_ _ | refine blk_drew ?_ | refine blk_alloc ?_ _)); exact BK371.out) hg (Kd.R_ne HO_3.out BK371.out (by decide))); have n1_ := Aside0.mk (IsS79.grown (by repeat ((with_reducible exact HI0.out))) hg (IsS79.own_ne HI0.out HO_3.out (by decide))); have n2_ := Aside0.mk (below_weaken (by repeat ((with_reducible exact HB.out))) HL.out hb); have n3_ := Aside0.mk (KeepBut.trans (by repeat ((with_reducible exact HK.out))) (KeepBut.of_grown hg g) (Kd.R_base2 HO_3.out)); have n4_ := Aside0.mk (ho); clear BK371; clear HI0; clear HB; clear HK; clear HO_3; have BK371 := n0_; have HI0 := n1_; have HB := n2_; have HK := n3_; have HO385 := n4_; clear n0_ n1_ n2_ n3_ n4_; clear ho hb hg hat))
    go_roundg k1
    case measure => have := HK1.out; omega
    case rel => exact ⟨(y383), (t381), (t382), H', ⟨by have := HK1.out; omega⟩, ⟨by (with_reducible repeat (first | apply Kd.R_alloc | apply Kd.R_drewN | apply Kd.R_drew)); exact HO385.out⟩, ⟨by (with_reducible repeat (first | refine blk_drewN ?_ _ | refine blk_drew ?_ | refine blk_alloc ?_ _)); exact BK371.out⟩, ⟨by repeat ((with_reducible exact HI0.out))⟩, ⟨by repeat ((with_reducible exact HK.out))⟩, ⟨by repeat ((with_reducible exact HB.out))⟩⟩
 case rest =>
  clear HC4
  try clear c1
  try clear p2
  try clear c6
  try clear c7
  try clear c8
  try clear c9
  try clear c9b0
  try clear c9b1
  try clear c11
  try clear p2
  obtain ⟨kq, x3_3, x1001_3, x1002_3, HA, HJ3, HO_3, BK371, HI0, HK, HB⟩ := hcut
  cases kq with
  | zero => exact absurd HA.out (by simp [spec_l01Cur_planes.j1])
  | succ kj3 =>
   have H := HA.out
   clear HA
   simp only [spec_l01Cur_planes.j1] at H
   replace H := Option.bind_eq_some_iff.mp H
   obtain ⟨⟨t386, t387, t390, t393⟩, A160, H⟩ := H
   replace H : ((spec_l01Cur_pick.f s0_0 x1001_3 x1002_3 12).bind fun bt395 => (if bt395.1 = 0 then ((spec_l01Cur_pick.f s0_0 bt395.2.1 bt395.2.2 160).bind fun bt398 => ((spec_l01Cur_bits.f kj3 s0_0 bt398.2.1 bt398.2.2).bind fun bt401 => (if 0 ≤ bt398.1 then (if bt398.1 < (t390.length : Int) then (some (t386, t387, (t390.set (bt398.1 : Int).toNat bt401.1), bt401.2.1, bt401.2.2)) else (none)) else (none)))) else (if bt395.1 = 1 then ((spec_l01Cur_raw.f s0_0 bt395.2.1 bt395.2.2).bind fun bt405 => ((some (([bt405.1, wrap64 (t386 + 1), 64] : List Int) : List Int)).bind fun y408 => ((spec_l01Cur_pick.f s0_0 bt405.2.1 bt405.2.2 3).bind fun bt411 => (if 0 ≤ bt411.1 then (if bt411.1 < (y408.length : Int) then (some (rd y408 bt411.1, t387, t390, bt411.2.1, bt411.2.2)) else (none)) else (none))))) else (if bt395.1 = 2 then (if t387.length < 17592186044416 then ((some (t387 ++ [0] : List Int)).bind fun y415 => ((spec_l01Cur_pick.f s0_0 bt395.2.1 bt395.2.2 2).bind fun bt418 => (if 0 ≤ bt418.1 then (if bt418.1 ≤ (y415.length : Int) then (some (t386, (y415.drop (bt418.1 : Int).toNat), t390, bt418.2.1, bt418.2.2)) else (none)) else (none)))) else (none)) else (if bt395.1 = 3 then ((spec_l01Cur_pick.f s0_0 bt395.2.1 bt395.2.2 6).bind fun bt424 => ((spec_l01Cur_bits.f kj3 s0_0 bt424.2.1 bt424.2.2).bind fun bt427 => (if 0 ≤ bt424.1 then (if bt424.1 < (t387.length : Int) then (some (t386, (t387.set (bt424.1 : Int).toNat bt427.1), t390, bt427.2.1, bt427.2.2)) else (none)) else (none)))) else (some (t386, t387, t390, bt395.2.1, bt395.2.2))))))) = some (r1, r2, r3, r4, r5) := H
   have A16 := Aside0.mk A160
   clear A160
   replace H := Option.bind_eq_some_iff.mp H
   obtain ⟨⟨t395, t396, t397⟩, A170, H⟩ := H
   replace H : (if t395 = 0 then ((spec_l01Cur_pick.f s0_0 t396 t397 160).bind fun bt398 => ((spec_l01Cur_bits.f kj3 s0_0 bt398.2.1 bt398.2.2).bind fun bt401 => (if 0 ≤ bt398.1 then (if bt398.1 < (t390.length : Int) then (some (t386, t387, (t390.set (bt398.1 : Int).toNat bt401.1), bt401.2.1, bt401.2.2)) else (none)) else (none)))) else (if t395 = 1 then ((spec_l01Cur_raw.f s0_0 t396 t397).bind fun bt405 => ((some (([bt405.1, wrap64 (t386 + 1), 64] : List Int) : List Int)).bind fun y408 => ((spec_l01Cur_pick.f s0_0 bt405.2.1 bt405.2.2 3).bind fun bt411 => (if 0 ≤ bt411.1 then (if bt411.1 < (y408.length : Int) then (some (rd y408 bt411.1, t387, t390, bt411.2.1, bt411.2.2)) else (none)) else (none))))) else (if t395 = 2 then (if t387.length < 17592186044416 then ((some (t387 ++ [0] : List Int)).bind fun y415 => ((spec_l01Cur_pick.f s0_0 t396 t397 2).bind fun bt418 => (if 0 ≤ bt418.1 then (if bt418.1 ≤ (y415.length : Int) then (some (t386, (y415.drop (bt418.1 : Int).toNat), t390, bt418.2.1, bt418.2.2)) else (none)) else (none)))) else (none)) else (if t395 = 3 then ((spec_l01Cur_pick.f s0_0 t396 t397 6).bind fun bt424 => ((spec_l01Cur_bits.f kj3 s0_0 bt424.2.1 bt424.2.2).bind fun bt427 => (if 0 ≤ bt424.1 then (if bt424.1 < (t387.length : Int) then (some (t386, (t387.set (bt424.1 : Int).toNat bt427.1), t390, bt427.2.1, bt427.2.2)) else (none)) else (none)))) else (some (t386, t387, t390, t396, t397)))))) = some (r1, r2, r3, r4, r5) := H
   have A17 := Aside0.mk A170
   clear A170
   by_cases c18 : t395 = 0
   ·
    rw [if_pos c18] at H
    have c18b0 : (t395 == 0) = true := beq_iff_eq.mpr c18
    have c18b1 : (t395 != 0) = false := bne_eq_false_iff_eq.mpr c18
    clear c18
    replace H := Option.bind_eq_some_iff.mp H
    obtain ⟨⟨t398, t399, t400⟩, A190, H⟩ := H
    replace H : ((spec_l01Cur_bits.f kj3 s0_0 t399 t400).bind fun bt401 => (if 0 ≤ t398 then (if t398 < (t390.length : Int) then (some (t386, t387, (t390.set (t398 : Int).toNat bt401.1), bt401.2.1, bt401.2.2)) else (none)) else (none))) = some (r1, r2, r3, r4, r5) := H
    have A19 := Aside0.mk A190
    clear A190
    replace H := Option.bind_eq_some_iff.mp H
    obtain ⟨⟨t401, t402, t403⟩, A200, H⟩ := H
    replace H : (if 0 ≤ t398 then (if t398 < (t390.length : Int) then (some (t386, t387, (t390.set (t398 : Int).toNat t401), t402, t403)) else (none)) else (none)) = some (r1, r2, r3, r4, r5) := H
    have A20 := Aside0.mk A200
    clear A200
    by_cases c21 : 0 ≤ t398
    rotate_left
    ·
     rw [if_neg c21] at H
     exact absurd H (by simp)
    rw [if_pos c21] at H
    have c21b0 : decide (0 ≤ t398) = true := decide_eq_true c21
    clear c21
    by_cases c22 : t398 < (t390.length : Int)
    rotate_left
    ·
     rw [if_neg c22] at H
     exact absurd H (by simp)
    rw [if_pos c22] at H
    have c22b0 : decide (t398 < (t390.length : Int)) = true := decide_eq_true c22
    clear c22
    obtain ⟨y404, hy404⟩ : ∃ y_ : List Int, y_ = (t390.set (t398 : Int).toNat t401) := ⟨_, rfl⟩
    replace H : (some (t386, t387, y404, t402, t403)) = some (r1, r2, r3, r4, r5) := by (rw [hy404]; with_reducible exact H)
    have Ny404 := Aside0.mk hy404
    clear hy404
    simp only [Option.some.injEq, Prod.mk.injEq] at H
    obtain ⟨rfl, rfl, rfl, rfl, rfl⟩ := H
    obtain ⟨Ao24, co24, eo24⟩ := Kd.R_slice HO_3.out
    subst eo24
    try go_wp2_with (first | ((with_reducible refine gate_callee (f := 18) rfl ?_); refine goesL_ (some 20) rfl rfl Try.func18 (by kernel_rfl) rfl #[.slice Ao24 x3_3.length co24] rfl (by (try simp only [List.map_toArray, List.map_cons, List.map_nil]); rfl) ?_; (with_reducible refine (spec_PlanesOf.calls kj3 _ _ x3_3 t386 t387 t390 t393 _ ?side1 ?side2 A16.out).mono ?_); (case side1 => repeat (exact (Kd.R_reads' HO_3.out).2.2)); (case side2 => exact (Kd.R_reads' HO_3.out).2.1); rintro e w25 ⟨v388, v391, rfl, ho0, ho1, hb⟩; refine ⟨_, rfl, ?_⟩; have n0_ := Aside0.mk (Kd.R_below (by (with_reducible repeat (first | apply Kd.R_alloc | apply Kd.R_drewN | apply Kd.R_drew)); exact HO_3.out) hb); have n1_ := Aside0.mk (Kd.R_lower ho0 (keep_size (w := w) (g := g) (row := none) (by repeat ((with_reducible exact HK.out))))); have n2_ := Aside0.mk (Kd.R_lower ho1 (keep_size (w := w) (g := g) (row := none) (by repeat ((with_reducible exact HK.out))))); have n3_ := Aside0.mk (blk_below (g := gb371) (o := .cells #[.int .i64 0, .slice none 0 0, .slice none 0 0] 37 (0, 0)) (by (with_reducible repeat (first | refine blk_drewN ?_ _ | refine blk_drew ?_ | refine blk_alloc ?_ _)); exact BK371.out) hb); have n4_ := Aside0.mk (IsS79.below (by repeat ((with_reducible exact HI0.out))) hb); have n5_ := Aside0.mk (KeepBut.trans (by repeat ((with_reducible exact HK.out))) (KeepBut.of_below hb g none) (.inl rfl)); have n6_ := Aside0.mk (below_step (by repeat ((with_reducible exact HB.out))) hb); clear HO_3; clear BK371; clear HI0; clear HK; clear HB; have HO_3 := n0_; have HO389 := n1_; have HO392 := n2_; have BK371 := n3_; have HI0 := n4_; have HK := n5_; have HB := n6_; clear n0_ n1_ n2_ n3_ n4_ n5_ n6_; (try clear hb); (try clear hb2); (try clear hk); (try clear hi); (try clear ho0); (try clear ho1)) | ((with_reducible refine gate_dst (N := 4) rfl ?_); refine box_event ?hg (N := 4) ?hd (cs := #[.int .i64 0, .slice none 0 0, .slice none 0 0]) (t := 37) ?hr ?_; (case hd => rfl); (case hg => rfl); (case hr => (go_simp; done)); intro gb394 hg w26 hbox hb; have n0_ := Aside0.mk (Kd.R_below (by (with_reducible repeat (first | apply Kd.R_alloc | apply Kd.R_drewN | apply Kd.R_drew)); exact HO_3.out) hb); have n1_ := Aside0.mk (Kd.R_below (by (with_reducible repeat (first | apply Kd.R_alloc | apply Kd.R_drewN | apply Kd.R_drew)); exact HO389.out) hb); have n2_ := Aside0.mk (Kd.R_below (by (with_reducible repeat (first | apply Kd.R_alloc | apply Kd.R_drewN | apply Kd.R_drew)); exact HO392.out) hb); have n3_ := Aside0.mk (blk_below (g := gb371) (o := .cells #[.int .i64 0, .slice none 0 0, .slice none 0 0] 37 (0, 0)) (by (with_reducible repeat (first | refine blk_drewN ?_ _ | refine blk_drew ?_ | refine blk_alloc ?_ _)); exact BK371.out) hb); have n4_ := Aside0.mk (IsS79.below (by repeat ((with_reducible exact HI0.out))) hb); have n5_ := Aside0.mk (KeepBut.trans (by repeat ((with_reducible exact HK.out))) (KeepBut.of_below hb g none) (.inl rfl)); have n6_ := Aside0.mk (below_step (by repeat ((with_reducible exact HB.out))) hb); have n7_ := Aside0.mk (hbox); have n8_ := Aside0.mk ((by rw [hg]; exact (keep_size (w := w) (g := g) (row := none) (by repeat ((with_reducible exact HK.out)))) : w.heap.size ≤ gb394)); have n9_ := Aside0.mk ((Nat.le_trans HW0.out (by rw [hg]; exact (keep_size (w := w) (g := g) (row := none) (by repeat ((with_reducible exact HK.out)))) : w.heap.size ≤ gb394) : w0.heap.size ≤ gb394)); have n10_ := Aside0.mk ((by rw [hg]; exact Nat.ne_of_lt (blk_lt (g := gb371) (o := .cells #[.int .i64 0, .slice none 0 0, .slice none 0 0] 37 (0, 0)) (by (with_reducible repeat (first | refine blk_drewN ?_ _ | refine blk_drew ?_ | refine blk_alloc ?_ _)); exact BK371.out)) : gb371 ≠ gb394)); have n11_ := Aside0.mk ((by rw [hg]; exact Nat.ne_of_gt (blk_lt (g := gb371) (o := .cells #[.int .i64 0, .slice none 0 0, .slice none 0 0] 37 (0, 0)) (by (with_reducible repeat (first | refine blk_drewN ?_ _ | refine blk_drew ?_ | refine blk_alloc ?_ _)); exact BK371.out)) : gb394 ≠ gb371)); have n12_ := Aside0.mk ((by rw [hg]; exact Nat.ne_of_lt (IsS79.lt (show IsS79 w0 _ g s0_0 x1001_3 x1002_3 from by repeat ((with_reducible exact HI0.out)))) : g ≠ gb394)); have n13_ := Aside0.mk ((by rw [hg]; exact Nat.ne_of_gt (IsS79.lt (show IsS79 w0 _ g s0_0 x1001_3 x1002_3 from by repeat ((with_reducible exact HI0.out)))) : gb394 ≠ g)); clear HO_3; clear HO389; clear HO392; clear BK371; clear HI0; clear HK; clear HB; have HO_3 := n0_; have HO389 := n1_; have HO392 := n2_; have BK371 := n3_; have HI0 := n4_; have HK := n5_; have HB := n6_; have BK394 := n7_; have GW394 := n8_; have GE394 := n9_; have NB371_394 := n10_; have NB394_371 := n11_; have NB0_394 := n12_; have NB394_0 := n13_; clear n0_ n1_ n2_ n3_ n4_ n5_ n6_ n7_ n8_ n9_ n10_ n11_ n12_ n13_; clear hb hbox hg; have hnb27 := NB394_371.out; have hnc27 := NB371_394.out; have hnb28 := NB394_0.out; have hnc28 := NB0_394.out; have hcz29_0 : w26.cell? ⟨gb394, 0, none⟩ = some (.int .i64 0) := b69_ BK394.out 0 rfl; have hcz29_1 : w26.cell? ⟨gb394, 1, none⟩ = some (.slice none 0 0) := b69_ BK394.out 1 rfl; have hcz29_2 : w26.cell? ⟨gb394, 2, none⟩ = some (.slice none 0 0) := b69_ BK394.out 2 rfl; have hfz29_0 := blk_frozen BK394.out 0; have hfz29_1 := blk_frozen BK394.out 1; have hfz29_2 := blk_frozen BK394.out 2; obtain ⟨Ao30, co30, eo30⟩ := Kd.R_slice HO389.out; subst eo30; obtain ⟨Ao31, co31, eo31⟩ := Kd.R_slice HO392.out; subst eo31) | ((with_reducible refine gate_callee (f := 44) rfl ?_); refine goesL_ (some 24) rfl rfl Try.func44 (by kernel_rfl) rfl #[.pointer (some ⟨g, 0, none⟩), .int .i64 12] rfl (by (try simp only [List.map_toArray, List.map_cons, List.map_nil]); rfl) ?_; (with_reducible refine (spec_l01Cur_pick.calls g s0_0 x1001_3 x1002_3 12 t395 t396 t397 w0 _ ?side1 ?side2 A17.out).mono ?_); (case side1 => repeat ((with_reducible first | exact HI0.out | refine IsS79.far ?_ NB0_394.out _))); (case side2 => repeat ((with_reducible first | exact HB.out | refine below_set ?_ GE394.out))); rintro e w32 ⟨rfl, hi, hb, hk⟩; refine ⟨_, rfl, ?_⟩; have n0_ := Aside0.mk (Kd.R_mono (Kd.R_keep (IsS79.apart (show IsS79 w0 _ g s0_0 x1001_3 x1002_3 from by repeat ((with_reducible first | exact HI0.out | refine IsS79.far ?_ NB0_394.out _))) (by (with_reducible repeat (first | apply Kd.R_alloc | apply Kd.R_drewN | apply Kd.R_drew)); exact (Kd.R_mono (Kd.R_far (p := ⟨gb394, 2, none⟩) (Kd.R_far (p := ⟨gb394, 1, none⟩) (Kd.R_far (p := ⟨gb394, 0, none⟩) (Kd.R_types HO_3.out BK394.out (by decide)) (fun _ hk => by exact hk.2) (.int .i64 t386)) (fun _ hk => by exact hk.2) (.slice Ao30 t387.length co30)) (fun _ hk => by exact hk.2) (.slice Ao31 t390.length co31)) (fun _ h_ => h_.1))) (by decide)) hk (fun _ h => h.2)) (fun _ h => h.1)); have n1_ := Aside0.mk (KeepBut.blk hk (g' := gb371) (o := .cells #[.int .i64 0, .slice none 0 0, .slice none 0 0] 37 (0, 0)) (by (with_reducible repeat (first | refine blk_drewN ?_ _ | refine blk_drew ?_ | refine blk_alloc ?_ _)); refine blk_far ?_ NB371_394.out _; (with_reducible repeat (first | refine blk_drewN ?_ _ | refine blk_drew ?_ | refine blk_alloc ?_ _)); refine blk_far ?_ NB371_394.out _; (with_reducible repeat (first | refine blk_drewN ?_ _ | refine blk_drew ?_ | refine blk_alloc ?_ _)); refine blk_far ?_ NB371_394.out _; (with_reducible repeat (first | refine blk_drewN ?_ _ | refine blk_drew ?_ | refine blk_alloc ?_ _)); exact BK371.out) NB371_0.out (by simp)); have n2_ := Aside0.mk (Kd.R_mono (Kd.R_keep (IsS79.apart (show IsS79 w0 _ g s0_0 x1001_3 x1002_3 from by repeat ((with_reducible first | exact HI0.out | refine IsS79.far ?_ NB0_394.out _))) (by (with_reducible repeat (first | apply Kd.R_alloc | apply Kd.R_drewN | apply Kd.R_drew)); exact (Kd.R_mono (Kd.R_far (p := ⟨gb394, 2, none⟩) (Kd.R_far (p := ⟨gb394, 1, none⟩) (Kd.R_far (p := ⟨gb394, 0, none⟩) (Kd.R_types HO389.out BK394.out (by decide)) (fun _ hk => by exact hk.2) (.int .i64 t386)) (fun _ hk => by exact hk.2) (.slice Ao30 t387.length co30)) (fun _ hk => by exact hk.2) (.slice Ao31 t390.length co31)) (fun _ h_ => h_.1))) (by decide)) hk (fun _ h => h.2)) (fun _ h => h.1)); have n3_ := Aside0.mk (Kd.R_mono (Kd.R_keep (IsS79.apart (show IsS79 w0 _ g s0_0 x1001_3 x1002_3 from by repeat ((with_reducible first | exact HI0.out | refine IsS79.far ?_ NB0_394.out _))) (by (with_reducible repeat (first | apply Kd.R_alloc | apply Kd.R_drewN | apply Kd.R_drew)); exact (Kd.R_mono (Kd.R_far (p := ⟨gb394, 2, none⟩) (Kd.R_far (p := ⟨gb394, 1, none⟩) (Kd.R_far (p := ⟨gb394, 0, none⟩) (Kd.R_types HO392.out BK394.out (by decide)) (fun _ hk => by exact hk.2) (.int .i64 t386)) (fun _ hk => by exact hk.2) (.slice Ao30 t387.length co30)) (fun _ hk => by exact hk.2) (.slice Ao31 t390.length co31)) (fun _ h_ => h_.1))) (by decide)) hk (fun _ h => h.2)) (fun _ h => h.1)); have n4_ := Aside0.mk (KeepBut.blk hk (g' := gb394) (o := .cells #[.int .i64 t386, .slice Ao30 t387.length co30, .slice Ao31 t390.length co31] 37 (0, 0)) (by (with_reducible repeat (first | refine blk_drewN ?_ _ | refine blk_drew ?_ | refine blk_alloc ?_ _)); refine blk_put (cs := #[.int .i64 t386, .slice Ao30 t387.length co30, .slice none 0 0]) ?_ 2 _ rfl; (with_reducible repeat (first | refine blk_drewN ?_ _ | refine blk_drew ?_ | refine blk_alloc ?_ _)); refine blk_put (cs := #[.int .i64 t386, .slice none 0 0, .slice none 0 0]) ?_ 1 _ rfl; (with_reducible repeat (first | refine blk_drewN ?_ _ | refine blk_drew ?_ | refine blk_alloc ?_ _)); refine blk_put (cs := #[.int .i64 0, .slice none 0 0, .slice none 0 0]) ?_ 0 _ rfl; (with_reducible repeat (first | refine blk_drewN ?_ _ | refine blk_drew ?_ | refine blk_alloc ?_ _)); exact BK394.out) NB394_0.out (by simp)); have n5_ := Aside0.mk (KeepBut.trans (by repeat ((with_reducible first | exact HK.out | refine keep_far ?_ GW394.out _))) hk (.inl rfl)); have n6_ := Aside0.mk (hb); have n7_ := Aside0.mk (hi); clear HO_3; clear BK371; clear HO389; clear HO392; clear BK394; clear HK; clear HB; clear HI0; have HO_3 := n0_; have BK371 := n1_; have HO389 := n2_; have HO392 := n3_; have BK394 := n4_; have HK := n5_; have HB := n6_; have HI0 := n7_; clear n0_ n1_ n2_ n3_ n4_ n5_ n6_ n7_; (try clear hb); (try clear hb2); (try clear hk); (try clear hi)))
    replace HO_3 := Aside0.mk (Kd.R_drew HO_3.out)
    replace HO389 := Aside0.mk (Kd.R_drew HO389.out)
    replace HO392 := Aside0.mk (Kd.R_drew HO392.out)
    replace BK371 := Aside0.mk (blk_drew BK371.out)
    replace BK394 := Aside0.mk (blk_drew BK394.out)
    replace HI0 := Aside0.mk (IsS79.drew HI0.out)
    replace HK := Aside0.mk (keep_drew HK.out)
    replace HB := Aside0.mk (below_drew1 HB.out)
    refine start_ (n := 8) (S := fun w' => w'.cell? ⟨gb394, 0, none⟩ = some (.int .i64 t386) ∧ w'.cell? ⟨gb394, 1, none⟩ = some (.slice Ao30 t387.length co30) ∧ w'.cell? ⟨gb394, 2, none⟩ = some (.slice Ao31 t390.length co31)) (ds := [7]) #[false, false, false, false, false, false, false, false] (by kernel_rfl) rfl rfl ⟨b69_ BK394.out 0 rfl, b69_ BK394.out 1 rfl, b69_ BK394.out 2 rfl⟩ (fun hHeld => ?_); refine with_tabW spec_l01Cur_planes.tab8 spec_l01Cur_planes.bits8 (fun HT_ HW_ => ?_)
    generalize w32.drew = w33 at HO_3 HO389 HO392 BK371 BK394 HI0 HK HB hHeld ⊢
    refine pure_ (i := 0) (N := some 27) (v := ?_) (a' := ?_) #[true, false, false, false, false, false, false, false] rfl rfl (any_of HT_.out (by kernel_rfl)) (fun _ _ _ h => h) (Or.inl ⟨by rfl, ?_⟩) ?_ ?_
    rotate_left
    ·
     intro w'
     go_simp
     with_reducible rfl
    rotate_left
    ·
     simp only [Act.put, List.setIfInBounds_toArray, List.set_cons_zero, List.set_cons_succ, i64_w, i32_w]
     rfl
    refine pure_ (i := 2) (N := some 29) (v := ?_) (a' := ?_) #[true, false, true, false, false, false, false, false] rfl rfl (any_of HT_.out (by kernel_rfl)) (fun _ _ _ h => h) (Or.inl ⟨by rfl, ?_⟩) ?_ ?_
    rotate_left
    ·
     intro w'
     go_simp
     with_reducible rfl
    rotate_left
    ·
     simp only [Act.put, List.setIfInBounds_toArray, List.set_cons_zero, List.set_cons_succ, i64_w, i32_w]
     rfl
    refine pure_ (i := 4) (N := some 31) (v := ?_) (a' := ?_) #[true, false, true, false, true, false, false, false] rfl rfl (any_of HT_.out (by kernel_rfl)) (fun _ _ _ h => h) (Or.inl ⟨by rfl, ?_⟩) ?_ ?_
    rotate_left
    ·
     intro w'
     go_simp
     with_reducible rfl
    rotate_left
    ·
     simp only [Act.put, List.setIfInBounds_toArray, List.set_cons_zero, List.set_cons_succ, i64_w, i32_w]
     rfl
    refine take_ (i := 1) (N := some 28) (v := ?_) (a' := ?_) #[true, true, true, false, true, false, false, false] rfl rfl (take_ofW HT_.out HW_.out (by kernel_rfl)) (fun _ _ _ h => h) (Or.inl ⟨by rfl, ?_⟩) hHeld ?_ ?_
    rotate_left
    ·
     rintro w' ⟨s0, s1, s2⟩
     go_simp
     with_reducible rfl
    rotate_left
    ·
     simp only [Act.put, List.setIfInBounds_toArray, List.set_cons_zero, List.set_cons_succ, i64_w, i32_w]
     rfl
    refine one_ (i := 3) (N := some 30) #[true, true, true, true, true, false, false, false] rfl rfl (one_of HT_.out (by kernel_rfl)) (by decide) (fun K hK => ?_)
    refine goes_ Try.func44 (by kernel_rfl) rfl #[.pointer (some ⟨g, 0, none⟩), .int .i64 160] (by rfl) rfl rfl (by (try simp only [List.map_toArray, List.map_cons, List.map_nil]); rfl) ?_
    with_reducible refine (spec_l01Cur_pick.calls g s0_0 t396 t397 160 t398 t399 t400 w0 _ ?side1 ?side2 A19.out).mono ?_
    (case side1 => repeat ((with_reducible exact HI0.out)))
    (case side2 => repeat ((with_reducible exact HB.out)))
    rintro e w34 ⟨rfl, hi, hb, hk⟩
    refine ⟨_, rfl, ?_⟩
    replace HO_3 := Aside0.mk (Kd.R_mono (Kd.R_keep (IsS79.apart (show IsS79 w0 _ g s0_0 t396 t397 from by repeat ((with_reducible exact HI0.out))) (by (with_reducible repeat (first | apply Kd.R_alloc | apply Kd.R_drewN | apply Kd.R_drew)); exact HO_3.out) (by decide)) hk (fun _ h => h.2)) (fun _ h => h.1))
    replace BK371 := Aside0.mk (KeepBut.blk hk (g' := gb371) (o := .cells #[.int .i64 0, .slice none 0 0, .slice none 0 0] 37 (0, 0)) BK371.out NB371_0.out (by simp))
    replace HO389 := Aside0.mk (Kd.R_mono (Kd.R_keep (IsS79.apart (show IsS79 w0 _ g s0_0 t396 t397 from by repeat ((with_reducible exact HI0.out))) (by (with_reducible repeat (first | apply Kd.R_alloc | apply Kd.R_drewN | apply Kd.R_drew)); exact HO389.out) (by decide)) hk (fun _ h => h.2)) (fun _ h => h.1))
    replace HO392 := Aside0.mk (Kd.R_mono (Kd.R_keep (IsS79.apart (show IsS79 w0 _ g s0_0 t396 t397 from by repeat ((with_reducible exact HI0.out))) (by (with_reducible repeat (first | apply Kd.R_alloc | apply Kd.R_drewN | apply Kd.R_drew)); exact HO392.out) (by decide)) hk (fun _ h => h.2)) (fun _ h => h.1))
    replace BK394 := Aside0.mk (KeepBut.blk hk (g' := gb394) (o := .cells #[.int .i64 t386, .slice Ao30 t387.length co30, .slice Ao31 t390.length co31] 37 (0, 0)) BK394.out NB394_0.out (by simp))
    replace HK := Aside0.mk (KeepBut.trans (by repeat ((with_reducible exact HK.out))) hk (.inl rfl))
    replace HB := Aside0.mk (hb)
    replace HI0 := Aside0.mk (hi)
    (try clear hb)
    (try clear hb2)
    (try clear hk)
    (try clear hi)
    refine hK.out _ _ ⟨b69_ BK394.out 0 rfl, b69_ BK394.out 1 rfl, b69_ BK394.out 2 rfl⟩ (fun hHeld => ?_)
    clear hK K
    refine norm_ (a' := ?_) ?_ ?_
    rotate_left
    ·
     show Act.put _ (some 30) _ = _
     simp only [Act.put, List.setIfInBounds_toArray, List.set_cons_zero, List.set_cons_succ, i64_w, i32_w]
     rfl
    refine one_ (i := 5) (N := some 32) #[true, true, true, true, true, true, false, false] rfl rfl (one_of HT_.out (by kernel_rfl)) (by decide) (fun K hK => ?_)
    refine goes_ Try.func78 (by kernel_rfl) rfl #[.pointer (some ⟨g, 0, none⟩)] (by rfl) rfl rfl (by (try simp only [List.map_toArray, List.map_cons, List.map_nil]); rfl) ?_
    with_reducible refine (spec_l01Cur_bits.calls kj3 g s0_0 t399 t400 t401 t402 t403 w0 _ ?side1 ?side2 A20.out).mono ?_
    (case side1 => repeat ((with_reducible exact HI0.out)))
    (case side2 => repeat ((with_reducible exact HB.out)))
    rintro e w35 ⟨rfl, hi, hb, hk⟩
    refine ⟨_, rfl, ?_⟩
    replace HO_3 := Aside0.mk (Kd.R_mono (Kd.R_keep (IsS79.apart (show IsS79 w0 _ g s0_0 t399 t400 from by repeat ((with_reducible exact HI0.out))) (by (with_reducible repeat (first | apply Kd.R_alloc | apply Kd.R_drewN | apply Kd.R_drew)); exact HO_3.out) (by decide)) hk (fun _ h => h.2)) (fun _ h => h.1))
    replace BK371 := Aside0.mk (KeepBut.blk hk (g' := gb371) (o := .cells #[.int .i64 0, .slice none 0 0, .slice none 0 0] 37 (0, 0)) BK371.out NB371_0.out (by simp))
    replace HO389 := Aside0.mk (Kd.R_mono (Kd.R_keep (IsS79.apart (show IsS79 w0 _ g s0_0 t399 t400 from by repeat ((with_reducible exact HI0.out))) (by (with_reducible repeat (first | apply Kd.R_alloc | apply Kd.R_drewN | apply Kd.R_drew)); exact HO389.out) (by decide)) hk (fun _ h => h.2)) (fun _ h => h.1))
    replace HO392 := Aside0.mk (Kd.R_mono (Kd.R_keep (IsS79.apart (show IsS79 w0 _ g s0_0 t399 t400 from by repeat ((with_reducible exact HI0.out))) (by (with_reducible repeat (first | apply Kd.R_alloc | apply Kd.R_drewN | apply Kd.R_drew)); exact HO392.out) (by decide)) hk (fun _ h => h.2)) (fun _ h => h.1))
    replace BK394 := Aside0.mk (KeepBut.blk hk (g' := gb394) (o := .cells #[.int .i64 t386, .slice Ao30 t387.length co30, .slice Ao31 t390.length co31] 37 (0, 0)) BK394.out NB394_0.out (by simp))
    replace HK := Aside0.mk (KeepBut.trans (by repeat ((with_reducible exact HK.out))) hk (.inl rfl))
    replace HB := Aside0.mk (hb)
    replace HI0 := Aside0.mk (hi)
    (try clear hb)
    (try clear hb2)
    (try clear hk)
    (try clear hi)
    have p23 : 0 ≤ (t398 : Int) := of_decide_eq_true (by (with_reducible assumption))
    have q23 : (t398 : Int) < ((t390.length : Int) : Int) := of_decide_eq_true (by (with_reducible assumption))
    obtain ⟨go23, co23, eo23, gb23, gl23, cl23, HG23⟩ := Kd.R_form HO392.out (by omega)
    (cases eo23)
    have GB23 := Aside0.mk gb23
    have GG23 := Aside0.mk HG23
    clear gb23 gl23 HG23
    obtain ⟨hx23_0, hf23_0⟩ := Kd.R_celln 0 HO392.out (t398 : Int) p23 q23
    replace p23 := eq_true p23
    replace q23 := eq_true q23
    have HN0_go23 := Aside0.mk (show g ≠ go23 from by have h_ := IsS79.own_ne HI0.out HO392.out (by decide); intro e_; exact h_ (by rw [e_]; rfl))
    have HP36 := Kd.R_putn HO392.out (t398 : Int) t401
    rw [← Ny404.out] at HP36
    have HQ36 := Aside0.mk HP36
    clear HP36
    refine hK.out _ _ ⟨b69_ BK394.out 0 rfl, b69_ BK394.out 1 rfl, b69_ BK394.out 2 rfl⟩ (fun hHeld => ?_)
    clear hK K
    refine norm_ (a' := ?_) ?_ ?_
    rotate_left
    ·
     show Act.put _ (some 32) _ = _
     simp only [Act.put, List.setIfInBounds_toArray, List.set_cons_zero, List.set_cons_succ, i64_w, i32_w]
     rfl
    refine pure_ (i := 6) (N := some 33) (v := ?_) (a' := ?_) #[true, true, true, true, true, true, true, false] rfl rfl (any_of HT_.out (by kernel_rfl)) (fun _ _ _ h => h) (Or.inl ⟨by rfl, ?_⟩) ?_ ?_
    rotate_left
    ·
     intro w'
     go_simp
     with_reducible rfl
    rotate_left
    ·
     simp only [Act.put, List.setIfInBounds_toArray, List.set_cons_zero, List.set_cons_succ, i64_w, i32_w]
     rfl
    refine last_ (i := 7) (N := none) #[true, true, true, true, true, true, true, true] rfl rfl (one_of HT_.out (by kernel_rfl)) (by decide) (fun K hK => ?_)
    refine skip_ (w1 := ?_) (by rfl) rfl ?_ ?_
    rotate_left
    ·
     go_simp
     rfl
    refine hK.out _ _ ?_
    clear hK K
    refine done_ (done_of HT_.out (by kernel_rfl)) ?_
    have n0_ : Aside0 (Kd.R Kd.string 9 (w35.setCell ⟨go23, (t398 : Int).toNat, none⟩ (.int .u64 t401)) w.heap.size (fun _ => True) (.slice Ao24 x3_3.length co24) x3_3) := ⟨by (with_reducible repeat (first | apply Kd.R_alloc | apply Kd.R_drewN | apply Kd.R_drew)); exact Kd.R_mono (Kd.R_far (p := ⟨go23, (t398 : Int).toNat, none⟩) (Kd.R_types HO_3.out GG23.out (by decide)) (fun _ hk => by exact hk.2) (.int .u64 t401)) (fun _ hk => trivial)⟩
    have n1_ : Aside0 (Kd.R (Kd.int .u64) 30 (w35.setCell ⟨go23, (t398 : Int).toNat, none⟩ (.int .u64 t401)) w.heap.size (fun k_ => some k_ ≠ (.slice (some ⟨go23, 0, none⟩) t390.length co31 : Value).ownBlock) (.slice Ao30 t387.length co30) t387) := ⟨by (with_reducible repeat (first | apply Kd.R_alloc | apply Kd.R_drewN | apply Kd.R_drew)); exact Kd.R_mono (Kd.R_far (p := ⟨go23, (t398 : Int).toNat, none⟩) (Kd.R_mono HO389.out (fun k_ hk => (⟨hk, fun e_ => hk (by rw [e_]; rfl)⟩ : _ ∧ k_ ≠ go23))) (fun _ hk => by exact hk.2) (.int .u64 t401)) (fun _ hk => by exact hk.1)⟩
    have n2_ : Aside0 (Kd.R (Kd.int .u64) 30 (w35.setCell ⟨go23, (t398 : Int).toNat, none⟩ (.int .u64 t401)) w.heap.size (fun k_ => some k_ ≠ (.slice Ao30 t387.length co30 : Value).ownBlock) (.slice (some ⟨go23, 0, none⟩) t390.length co31) y404) := ⟨by (with_reducible repeat (first | apply Kd.R_alloc | apply Kd.R_drewN | apply Kd.R_drew)); exact HQ36.out⟩
    have n3_ : Aside0 ((w35.setCell ⟨go23, (t398 : Int).toNat, none⟩ (.int .u64 t401)).heap[gb371]? = some (.cells #[.int .i64 0, .slice none 0 0, .slice none 0 0] 37 (0, 0))) := ⟨by (with_reducible repeat (first | refine blk_drewN ?_ _ | refine blk_drew ?_ | refine blk_alloc ?_ _)); refine blk_far ?_ (by have h_ := Kd.R_ne HO392.out BK371.out (by decide); intro e_; exact h_ (by rw [e_]; rfl)) _; (with_reducible repeat (first | refine blk_drewN ?_ _ | refine blk_drew ?_ | refine blk_alloc ?_ _)); exact BK371.out⟩
    have n4_ : Aside0 ((w35.setCell ⟨go23, (t398 : Int).toNat, none⟩ (.int .u64 t401)).heap[gb394]? = some (.cells #[.int .i64 t386, .slice Ao30 t387.length co30, .slice (some ⟨go23, 0, none⟩) t390.length co31] 37 (0, 0))) := ⟨by (with_reducible repeat (first | refine blk_drewN ?_ _ | refine blk_drew ?_ | refine blk_alloc ?_ _)); refine blk_far ?_ (by have h_ := Kd.R_ne HO392.out BK394.out (by decide); intro e_; exact h_ (by rw [e_]; rfl)) _; (with_reducible repeat (first | refine blk_drewN ?_ _ | refine blk_drew ?_ | refine blk_alloc ?_ _)); exact BK394.out⟩
    have n5_ : Aside0 (IsS79 w0 (w35.setCell ⟨go23, (t398 : Int).toNat, none⟩ (.int .u64 t401)) g s0_0 t402 t403) := ⟨by repeat ((with_reducible first | exact HI0.out | refine IsS79.far ?_ HN0_go23.out _))⟩
    have n6_ : Aside0 (KeepBut w (w35.setCell ⟨go23, (t398 : Int).toNat, none⟩ (.int .u64 t401)) g none) := ⟨by repeat ((with_reducible first | exact HK.out | refine keep_far ?_ GB23.out _))⟩
    have n7_ : Aside0 (Below w0.heap.size w0 (w35.setCell ⟨go23, (t398 : Int).toNat, none⟩ (.int .u64 t401))) := ⟨by repeat ((with_reducible first | exact HB.out | refine below_set ?_ (Nat.le_trans HL.out GB23.out)))⟩
    (try clear HO_3)
    (try clear HO389)
    (try clear HO392)
    (try clear BK371)
    (try clear BK394)
    (try clear HI0)
    (try clear HK)
    (try clear HB)
    generalize (w35.setCell ⟨go23, (t398 : Int).toNat, none⟩ (.int .u64 t401)) = w37 at n0_ n1_ n2_ n3_ n4_ n5_ n6_ n7_ ⊢
    have HO_3 := n0_
    have HO389 := n1_
    have HO392 := n2_
    have BK371 := n3_
    have BK394 := n4_
    have HI0 := n5_
    have HK := n6_
    have HB := n7_
    clear n0_ n1_ n2_ n3_ n4_ n5_ n6_ n7_
    have hcz38_0 : w37.cell? ⟨gb394, 0, none⟩ = some (.int .i64 t386) := b69_ BK394.out 0 rfl
    have hcz38_1 : w37.cell? ⟨gb394, 1, none⟩ = some (.slice Ao30 t387.length co30) := b69_ BK394.out 1 rfl
    have hcz38_2 : w37.cell? ⟨gb394, 2, none⟩ = some (.slice (some ⟨go23, 0, none⟩) t390.length co31) := b69_ BK394.out 2 rfl
    have hfz38_0 := blk_frozen BK394.out 0
    have hfz38_1 := blk_frozen BK394.out 1
    have hfz38_2 := blk_frozen BK394.out 2
    have hnb39 := NB371_0.out
    have hnc39 := NB0_371.out
    have hcz40_0 : w37.cell? ⟨gb371, 0, none⟩ = some (.int .i64 0) := b69_ BK371.out 0 rfl
    have hcz40_1 : w37.cell? ⟨gb371, 1, none⟩ = some (.slice none 0 0) := b69_ BK371.out 1 rfl
    have hcz40_2 : w37.cell? ⟨gb371, 2, none⟩ = some (.slice none 0 0) := b69_ BK371.out 2 rfl
    have hfz40_0 := blk_frozen BK371.out 0
    have hfz40_1 := blk_frozen BK371.out 1
    have hfz40_2 := blk_frozen BK371.out 2
    try go_wp2
    refine bodyPost_ret (results_cell_row rfl _ _ gb371 37 #[.int .i64 t386, .slice Ao30 t387.length co30, .slice (some ⟨go23, 0, none⟩) t390.length co31] (0, 0) _ rfl (by (with_reducible repeat (first | refine blk_drewN ?_ _ | refine blk_drew ?_ | refine blk_alloc ?_ _)); refine blk_put (cs := #[.int .i64 t386, .slice Ao30 t387.length co30, .slice none 0 0]) ?_ 2 _ rfl; (with_reducible repeat (first | refine blk_drewN ?_ _ | refine blk_drew ?_ | refine blk_alloc ?_ _)); refine blk_put (cs := #[.int .i64 t386, .slice none 0 0, .slice none 0 0]) ?_ 1 _ rfl; (with_reducible repeat (first | refine blk_drewN ?_ _ | refine blk_drew ?_ | refine blk_alloc ?_ _)); refine blk_put (cs := #[.int .i64 0, .slice none 0 0, .slice none 0 0]) ?_ 0 _ rfl; (with_reducible repeat (first | refine blk_drewN ?_ _ | refine blk_drew ?_ | refine blk_alloc ?_ _)); exact BK371.out) Try.underlying37 rfl (by kernel_rfl)) rfl ?_
    exact ⟨_, _, by rfl, Kd.Q_of_R (by (with_reducible repeat (first | apply Kd.R_alloc | apply Kd.R_drewN | apply Kd.R_drew)); exact Kd.R_mono (Kd.R_far (p := ⟨gb371, 2, none⟩) (Kd.R_far (p := ⟨gb371, 1, none⟩) (Kd.R_far (p := ⟨gb371, 0, none⟩) (Kd.R_types HO389.out BK371.out (by decide)) (fun _ hk => by exact hk.2) (.int .i64 t386)) (fun _ hk => by exact hk.2) (.slice Ao30 t387.length co30)) (fun _ hk => by exact hk.2) (.slice (some ⟨go23, 0, none⟩) t390.length co31)) (fun _ hk => by exact hk.1)), by (with_reducible repeat (first | apply Kd.R_alloc | apply Kd.R_drewN | apply Kd.R_drew)); exact Kd.R_mono (Kd.R_far (p := ⟨gb371, 2, none⟩) (Kd.R_far (p := ⟨gb371, 1, none⟩) (Kd.R_far (p := ⟨gb371, 0, none⟩) (Kd.R_types HO392.out BK371.out (by decide)) (fun _ hk => by exact hk.2) (.int .i64 t386)) (fun _ hk => by exact hk.2) (.slice Ao30 t387.length co30)) (fun _ hk => by exact hk.2) (.slice (some ⟨go23, 0, none⟩) t390.length co31)) (fun _ hk => by exact hk.1), by repeat ((with_reducible first | exact HI0.out | refine IsS79.far ?_ NB0_371.out _)), by repeat ((with_reducible first | exact HB.out | refine below_set ?_ GE371.out)), by repeat ((with_reducible first | exact HK.out | refine keep_far ?_ GW371.out _))⟩
   rw [if_neg c18] at H
   have c18b0 : (t395 == 0) = false := beq_eq_false_iff_ne.mpr c18
   have c18b1 : (t395 != 0) = true := bne_iff_ne.mpr c18
   by_cases c41 : t395 = 1
   rotate_left
   ·
    rw [if_neg c41] at H
    have c41b0 : (t395 == 1) = false := beq_eq_false_iff_ne.mpr c41
    have c41b1 : (t395 != 1) = true := bne_iff_ne.mpr c41
    by_cases c67 : t395 = 2
    ·
     rw [if_pos c67] at H
     have c67b0 : (t395 == 2) = true := beq_iff_eq.mpr c67
     have c67b1 : (t395 != 2) = false := bne_eq_false_iff_eq.mpr c67
     clear c67
     by_cases c68 : t387.length < 17592186044416
     rotate_left
     ·
      rw [if_neg c68] at H
      exact absurd H (by simp)
     rw [if_pos c68] at H
     have LMc68 := Aside0.mk c68
     clear c68
     obtain ⟨y415, hy415⟩ : ∃ y_ : List Int, y_ = (t387 ++ [0]) := ⟨_, rfl⟩
     replace H : ((spec_l01Cur_pick.f s0_0 t396 t397 2).bind fun bt418 => (if 0 ≤ bt418.1 then (if bt418.1 ≤ (y415.length : Int) then (some (t386, (y415.drop (bt418.1 : Int).toNat), t390, bt418.2.1, bt418.2.2)) else (none)) else (none))) = some (r1, r2, r3, r4, r5) := by (have H2_ := (Option.bind_some _ _).symm.trans H; rw [hy415]; with_reducible exact H2_)
     have Ny415 := Aside0.mk hy415
     clear hy415
     replace H := Option.bind_eq_some_iff.mp H
     obtain ⟨⟨t418, t419, t420⟩, A690, H⟩ := H
     replace H : (if 0 ≤ t418 then (if t418 ≤ (y415.length : Int) then (some (t386, (y415.drop (t418 : Int).toNat), t390, t419, t420)) else (none)) else (none)) = some (r1, r2, r3, r4, r5) := H
     have A69 := Aside0.mk A690
     clear A690
     by_cases c70 : 0 ≤ t418
     rotate_left
     ·
      rw [if_neg c70] at H
      exact absurd H (by simp)
     rw [if_pos c70] at H
     have c70b0 := eq_true c70
     have c70b1 : decide (0 ≤ t418) = true := decide_eq_true c70
     clear c70
     by_cases c71 : t418 ≤ (y415.length : Int)
     rotate_left
     ·
      rw [if_neg c71] at H
      exact absurd H (by simp)
     rw [if_pos c71] at H
     have c71b0 := eq_true c71
     have c71b1 : decide (t418 ≤ (y415.length : Int)) = true := decide_eq_true c71
     clear c71
     obtain ⟨y421, hy421⟩ : ∃ y_ : List Int, y_ = (y415.drop (t418 : Int).toNat) := ⟨_, rfl⟩
     replace H : (some (t386, y421, t390, t419, t420)) = some (r1, r2, r3, r4, r5) := by (rw [hy421]; with_reducible exact H)
     have Ny421 := Aside0.mk hy421
     clear hy421
     simp only [Option.some.injEq, Prod.mk.injEq] at H
     obtain ⟨rfl, rfl, rfl, rfl, rfl⟩ := H
     obtain ⟨Ao72, co72, eo72⟩ := Kd.R_slice HO_3.out
     subst eo72
     go_wp2_with (first | ((with_reducible refine gate_callee (f := 18) rfl ?_); refine goesL_ (some 20) rfl rfl Try.func18 (by kernel_rfl) rfl #[.slice Ao72 x3_3.length co72] rfl (by (try simp only [List.map_toArray, List.map_cons, List.map_nil]); rfl) ?_; (with_reducible refine (spec_PlanesOf.calls kj3 _ _ x3_3 t386 t387 t390 t393 _ ?side1 ?side2 A16.out).mono ?_); (case side1 => repeat (exact (Kd.R_reads' HO_3.out).2.2)); (case side2 => exact (Kd.R_reads' HO_3.out).2.1); rintro e w73 ⟨v388, v391, rfl, ho0, ho1, hb⟩; refine ⟨_, rfl, ?_⟩; have n0_ := Aside0.mk (Kd.R_below (by (with_reducible repeat (first | apply Kd.R_alloc | apply Kd.R_drewN | apply Kd.R_drew)); exact HO_3.out) hb); have n1_ := Aside0.mk (Kd.R_lower ho0 (keep_size (w := w) (g := g) (row := none) (by repeat ((with_reducible exact HK.out))))); have n2_ := Aside0.mk (Kd.R_lower ho1 (keep_size (w := w) (g := g) (row := none) (by repeat ((with_reducible exact HK.out))))); have n3_ := Aside0.mk (blk_below (g := gb371) (o := .cells #[.int .i64 0, .slice none 0 0, .slice none 0 0] 37 (0, 0)) (by (with_reducible repeat (first | refine blk_drewN ?_ _ | refine blk_drew ?_ | refine blk_alloc ?_ _)); exact BK371.out) hb); have n4_ := Aside0.mk (IsS79.below (by repeat ((with_reducible exact HI0.out))) hb); have n5_ := Aside0.mk (KeepBut.trans (by repeat ((with_reducible exact HK.out))) (KeepBut.of_below hb g none) (.inl rfl)); have n6_ := Aside0.mk (below_step (by repeat ((with_reducible exact HB.out))) hb); clear HO_3; clear BK371; clear HI0; clear HK; clear HB; have HO_3 := n0_; have HO389 := n1_; have HO392 := n2_; have BK371 := n3_; have HI0 := n4_; have HK := n5_; have HB := n6_; clear n0_ n1_ n2_ n3_ n4_ n5_ n6_; (try clear hb); (try clear hb2); (try clear hk); (try clear hi); (try clear ho0); (try clear ho1)) | ((with_reducible refine gate_dst (N := 4) rfl ?_); refine box_event ?hg (N := 4) ?hd (cs := #[.int .i64 0, .slice none 0 0, .slice none 0 0]) (t := 37) ?hr ?_; (case hd => rfl); (case hg => rfl); (case hr => (go_simp; done)); intro gb394 hg w74 hbox hb; have n0_ := Aside0.mk (Kd.R_below (by (with_reducible repeat (first | apply Kd.R_alloc | apply Kd.R_drewN | apply Kd.R_drew)); exact HO_3.out) hb); have n1_ := Aside0.mk (Kd.R_below (by (with_reducible repeat (first | apply Kd.R_alloc | apply Kd.R_drewN | apply Kd.R_drew)); exact HO389.out) hb); have n2_ := Aside0.mk (Kd.R_below (by (with_reducible repeat (first | apply Kd.R_alloc | apply Kd.R_drewN | apply Kd.R_drew)); exact HO392.out) hb); have n3_ := Aside0.mk (blk_below (g := gb371) (o := .cells #[.int .i64 0, .slice none 0 0, .slice none 0 0] 37 (0, 0)) (by (with_reducible repeat (first | refine blk_drewN ?_ _ | refine blk_drew ?_ | refine blk_alloc ?_ _)); exact BK371.out) hb); have n4_ := Aside0.mk (IsS79.below (by repeat ((with_reducible exact HI0.out))) hb); have n5_ := Aside0.mk (KeepBut.trans (by repeat ((with_reducible exact HK.out))) (KeepBut.of_below hb g none) (.inl rfl)); have n6_ := Aside0.mk (below_step (by repeat ((with_reducible exact HB.out))) hb); have n7_ := Aside0.mk (hbox); have n8_ := Aside0.mk ((by rw [hg]; exact (keep_size (w := w) (g := g) (row := none) (by repeat ((with_reducible exact HK.out)))) : w.heap.size ≤ gb394)); have n9_ := Aside0.mk ((Nat.le_trans HW0.out (by rw [hg]; exact (keep_size (w := w) (g := g) (row := none) (by repeat ((with_reducible exact HK.out)))) : w.heap.size ≤ gb394) : w0.heap.size ≤ gb394)); have n10_ := Aside0.mk ((by rw [hg]; exact Nat.ne_of_lt (blk_lt (g := gb371) (o := .cells #[.int .i64 0, .slice none 0 0, .slice none 0 0] 37 (0, 0)) (by (with_reducible repeat (first | refine blk_drewN ?_ _ | refine blk_drew ?_ | refine blk_alloc ?_ _)); exact BK371.out)) : gb371 ≠ gb394)); have n11_ := Aside0.mk ((by rw [hg]; exact Nat.ne_of_gt (blk_lt (g := gb371) (o := .cells #[.int .i64 0, .slice none 0 0, .slice none 0 0] 37 (0, 0)) (by (with_reducible repeat (first | refine blk_drewN ?_ _ | refine blk_drew ?_ | refine blk_alloc ?_ _)); exact BK371.out)) : gb394 ≠ gb371)); have n12_ := Aside0.mk ((by rw [hg]; exact Nat.ne_of_lt (IsS79.lt (show IsS79 w0 _ g s0_0 x1001_3 x1002_3 from by repeat ((with_reducible exact HI0.out)))) : g ≠ gb394)); have n13_ := Aside0.mk ((by rw [hg]; exact Nat.ne_of_gt (IsS79.lt (show IsS79 w0 _ g s0_0 x1001_3 x1002_3 from by repeat ((with_reducible exact HI0.out)))) : gb394 ≠ g)); clear HO_3; clear HO389; clear HO392; clear BK371; clear HI0; clear HK; clear HB; have HO_3 := n0_; have HO389 := n1_; have HO392 := n2_; have BK371 := n3_; have HI0 := n4_; have HK := n5_; have HB := n6_; have BK394 := n7_; have GW394 := n8_; have GE394 := n9_; have NB371_394 := n10_; have NB394_371 := n11_; have NB0_394 := n12_; have NB394_0 := n13_; clear n0_ n1_ n2_ n3_ n4_ n5_ n6_ n7_ n8_ n9_ n10_ n11_ n12_ n13_; clear hb hbox hg; have hnb75 := NB394_371.out; have hnc75 := NB371_394.out; have hnb76 := NB394_0.out; have hnc76 := NB0_394.out; have hcz77_0 : w74.cell? ⟨gb394, 0, none⟩ = some (.int .i64 0) := b69_ BK394.out 0 rfl; have hcz77_1 : w74.cell? ⟨gb394, 1, none⟩ = some (.slice none 0 0) := b69_ BK394.out 1 rfl; have hcz77_2 : w74.cell? ⟨gb394, 2, none⟩ = some (.slice none 0 0) := b69_ BK394.out 2 rfl; have hfz77_0 := blk_frozen BK394.out 0; have hfz77_1 := blk_frozen BK394.out 1; have hfz77_2 := blk_frozen BK394.out 2; obtain ⟨Ao78, co78, eo78⟩ := Kd.R_slice HO389.out; subst eo78; obtain ⟨Ao79, co79, eo79⟩ := Kd.R_slice HO392.out; subst eo79) | ((with_reducible refine gate_callee (f := 44) rfl ?_); refine goesL_ (some 24) rfl rfl Try.func44 (by kernel_rfl) rfl #[.pointer (some ⟨g, 0, none⟩), .int .i64 12] rfl (by (try simp only [List.map_toArray, List.map_cons, List.map_nil]); rfl) ?_; (with_reducible refine (spec_l01Cur_pick.calls g s0_0 x1001_3 x1002_3 12 t395 t396 t397 w0 _ ?side1 ?side2 A17.out).mono ?_); (case side1 => repeat ((with_reducible first | exact HI0.out | refine IsS79.far ?_ NB0_394.out _))); (case side2 => repeat ((with_reducible first | exact HB.out | refine below_set ?_ GE394.out))); rintro e w80 ⟨rfl, hi, hb, hk⟩; refine ⟨_, rfl, ?_⟩; have n0_ := Aside0.mk (Kd.R_mono (Kd.R_keep (IsS79.apart (show IsS79 w0 _ g s0_0 x1001_3 x1002_3 from by repeat ((with_reducible first | exact HI0.out | refine IsS79.far ?_ NB0_394.out _))) (by (with_reducible repeat (first | apply Kd.R_alloc | apply Kd.R_drewN | apply Kd.R_drew)); exact (Kd.R_mono (Kd.R_far (p := ⟨gb394, 2, none⟩) (Kd.R_far (p := ⟨gb394, 1, none⟩) (Kd.R_far (p := ⟨gb394, 0, none⟩) (Kd.R_types HO_3.out BK394.out (by decide)) (fun _ hk => by exact hk.2) (.int .i64 t386)) (fun _ hk => by exact hk.2) (.slice Ao78 t387.length co78)) (fun _ hk => by exact hk.2) (.slice Ao79 t390.length co79)) (fun _ h_ => h_.1))) (by decide)) hk (fun _ h => h.2)) (fun _ h => h.1)); have n1_ := Aside0.mk (KeepBut.blk hk (g' := gb371) (o := .cells #[.int .i64 0, .slice none 0 0, .slice none 0 0] 37 (0, 0)) (by (with_reducible repeat (first | refine blk_drewN ?_ _ | refine blk_drew ?_ | refine blk_alloc ?_ _)); refine blk_far ?_ NB371_394.out _; (with_reducible repeat (first | refine blk_drewN ?_ _ | refine blk_drew ?_ | refine blk_alloc ?_ _)); refine blk_far ?_ NB371_394.out _; (with_reducible repeat (first | refine blk_drewN ?_ _ | refine blk_drew ?_ | refine blk_alloc ?_ _)); refine blk_far ?_ NB371_394.out _; (with_reducible repeat (first | refine blk_drewN ?_ _ | refine blk_drew ?_ | refine blk_alloc ?_ _)); exact BK371.out) NB371_0.out (by simp)); have n2_ := Aside0.mk (Kd.R_mono (Kd.R_keep (IsS79.apart (show IsS79 w0 _ g s0_0 x1001_3 x1002_3 from by repeat ((with_reducible first | exact HI0.out | refine IsS79.far ?_ NB0_394.out _))) (by (with_reducible repeat (first | apply Kd.R_alloc | apply Kd.R_drewN | apply Kd.R_drew)); exact (Kd.R_mono (Kd.R_far (p := ⟨gb394, 2, none⟩) (Kd.R_far (p := ⟨gb394, 1, none⟩) (Kd.R_far (p := ⟨gb394, 0, none⟩) (Kd.R_types HO389.out BK394.out (by decide)) (fun _ hk => by exact hk.2) (.int .i64 t386)) (fun _ hk => by exact hk.2) (.slice Ao78 t387.length co78)) (fun _ hk => by exact hk.2) (.slice Ao79 t390.length co79)) (fun _ h_ => h_.1))) (by decide)) hk (fun _ h => h.2)) (fun _ h => h.1)); have n3_ := Aside0.mk (Kd.R_mono (Kd.R_keep (IsS79.apart (show IsS79 w0 _ g s0_0 x1001_3 x1002_3 from by repeat ((with_reducible first | exact HI0.out | refine IsS79.far ?_ NB0_394.out _))) (by (with_reducible repeat (first | apply Kd.R_alloc | apply Kd.R_drewN | apply Kd.R_drew)); exact (Kd.R_mono (Kd.R_far (p := ⟨gb394, 2, none⟩) (Kd.R_far (p := ⟨gb394, 1, none⟩) (Kd.R_far (p := ⟨gb394, 0, none⟩) (Kd.R_types HO392.out BK394.out (by decide)) (fun _ hk => by exact hk.2) (.int .i64 t386)) (fun _ hk => by exact hk.2) (.slice Ao78 t387.length co78)) (fun _ hk => by exact hk.2) (.slice Ao79 t390.length co79)) (fun _ h_ => h_.1))) (by decide)) hk (fun _ h => h.2)) (fun _ h => h.1)); have n4_ := Aside0.mk (KeepBut.blk hk (g' := gb394) (o := .cells #[.int .i64 t386, .slice Ao78 t387.length co78, .slice Ao79 t390.length co79] 37 (0, 0)) (by (with_reducible repeat (first | refine blk_drewN ?_ _ | refine blk_drew ?_ | refine blk_alloc ?_ _)); refine blk_put (cs := #[.int .i64 t386, .slice Ao78 t387.length co78, .slice none 0 0]) ?_ 2 _ rfl; (with_reducible repeat (first | refine blk_drewN ?_ _ | refine blk_drew ?_ | refine blk_alloc ?_ _)); refine blk_put (cs := #[.int .i64 t386, .slice none 0 0, .slice none 0 0]) ?_ 1 _ rfl; (with_reducible repeat (first | refine blk_drewN ?_ _ | refine blk_drew ?_ | refine blk_alloc ?_ _)); refine blk_put (cs := #[.int .i64 0, .slice none 0 0, .slice none 0 0]) ?_ 0 _ rfl; (with_reducible repeat (first | refine blk_drewN ?_ _ | refine blk_drew ?_ | refine blk_alloc ?_ _)); exact BK394.out) NB394_0.out (by simp)); have n5_ := Aside0.mk (KeepBut.trans (by repeat ((with_reducible first | exact HK.out | refine keep_far ?_ GW394.out _))) hk (.inl rfl)); have n6_ := Aside0.mk (hb); have n7_ := Aside0.mk (hi); clear HO_3; clear BK371; clear HO389; clear HO392; clear BK394; clear HK; clear HB; clear HI0; have HO_3 := n0_; have BK371 := n1_; have HO389 := n2_; have HO392 := n3_; have BK394 := n4_; have HK := n5_; have HB := n6_; have HI0 := n7_; clear n0_ n1_ n2_ n3_ n4_ n5_ n6_ n7_; (try clear hb); (try clear hb2); (try clear hk); (try clear hi); have hcz81_0 : w80.cell? ⟨gb394, 0, none⟩ = some (.int .i64 t386) := b69_ BK394.out 0 rfl; have hcz81_1 : w80.cell? ⟨gb394, 1, none⟩ = some (.slice Ao78 t387.length co78) := b69_ BK394.out 1 rfl; have hcz81_2 : w80.cell? ⟨gb394, 2, none⟩ = some (.slice Ao79 t390.length co79) := b69_ BK394.out 2 rfl; have hfz81_0 := blk_frozen BK394.out 0; have hfz81_1 := blk_frozen BK394.out 1; have hfz81_2 := blk_frozen BK394.out 2) | ((with_reducible refine gate_builtin (b := .append) (xs := #[.tmp 50, .tmp 51]) rfl ?_); at_builtin; refine Kd.R_append (Kd.int .u64) w.heap.size rfl (.tmp 50) (.tmp 51) 27 30 (.int .u64 0) 8 rfl Try.underlying27 info30 rfl (by decide) (by omega) (.slice Ao78 t387.length co78) t387 0 [.int .u64 0] (fun k_ => some k_ ≠ (.slice Ao79 t390.length co79 : Value).ownBlock) (fun _ => False) rfl rfl ?aP (fun _ hk => hk.elim) ?aF ?aO (Below.refl _ _) ?aS ?aL ?_; (case aP => exact rfl); (case aF => exact (fun k_ hk => Kd.fresh' (Kd.R_lt (by (with_reducible repeat (first | apply Kd.R_alloc | apply Kd.R_drewN | apply Kd.R_drew)); exact HO392.out)) k_ hk)); (case aO => exact (by (with_reducible repeat (first | apply Kd.R_alloc | apply Kd.R_drewN | apply Kd.R_drew)); exact HO389.out)); (case aS => exact (keep_size (w := w) (g := g) (row := none) (by repeat ((with_reducible exact HK.out))))); (case aL => have := LMc68.out; omega); intro v416 w82 ho hb hg hat; rw [← Ny415.out] at ho; have n0_ := Aside0.mk (Kd.R_over' (by (with_reducible repeat (first | apply Kd.R_alloc | apply Kd.R_drewN | apply Kd.R_drew)); exact HO_3.out) (Kd.R_typed (by (with_reducible repeat (first | apply Kd.R_alloc | apply Kd.R_drewN | apply Kd.R_drew)); exact HO389.out)) (by decide) hg); have n1_ := Aside0.mk (blk_grown (g := gb371) (o := .cells #[.int .i64 0, .slice none 0 0, .slice none 0 0] 37 (0, 0)) (by (with_reducible repeat (first | refine blk_drewN ?_ _ | refine blk_drew ?_ | refine blk_alloc ?_ _)); exact BK371.out) hg (Kd.R_ne HO389.out BK371.out (by decide))); have n2_ := Aside0.mk (IsS79.grown (by repeat ((with_reducible exact HI0.out))) hg (IsS79.own_ne HI0.out HO389.out (by decide))); have n3_ := Aside0.mk (Kd.R_after (ok := (fun _ => True)) (by (with_reducible repeat (first | apply Kd.R_alloc | apply Kd.R_drewN | apply Kd.R_drew)); exact Kd.R_mono HO392.out (fun _ hk => ⟨trivial, hk⟩)) hg hat); have n4_ := Aside0.mk (blk_grown (g := gb394) (o := .cells #[.int .i64 t386, .slice Ao78 t387.length co78, .slice Ao79 t390.length co79] 37 (0, 0)) (by (with_reducible repeat (first | refine blk_drewN ?_ _ | refine blk_drew ?_ | refine blk_alloc ?_ _)); exact BK394.out) hg (Kd.R_ne HO389.out BK394.out (by decide))); have n5_ := Aside0.mk (below_weaken (by repeat ((with_reducible exact HB.out))) HL.out hb); have n6_ := Aside0.mk (KeepBut.trans (by repeat ((with_reducible exact HK.out))) (KeepBut.of_grown hg g) (Kd.R_base2 HO389.out)); have n7_ := Aside0.mk (ho); clear HO_3; clear BK371; clear HI0; clear HO392; clear BK394; clear HB; clear HK; clear HO389; have HO_3 := n0_; have BK371 := n1_; have HI0 := n2_; have HO392 := n3_; have BK394 := n4_; have HB := n5_; have HK := n6_; have HO417 := n7_; clear n0_ n1_ n2_ n3_ n4_ n5_ n6_ n7_; clear ho hb hg hat) | ((with_reducible refine gate_callee (f := 44) rfl ?_); refine goesL_ (some 54) rfl rfl Try.func44 (by kernel_rfl) rfl #[.pointer (some ⟨g, 0, none⟩), .int .i64 2] rfl (by (try simp only [List.map_toArray, List.map_cons, List.map_nil]); rfl) ?_; (with_reducible refine (spec_l01Cur_pick.calls g s0_0 t396 t397 2 t418 t419 t420 w0 _ ?side1 ?side2 A69.out).mono ?_); (case side1 => repeat ((with_reducible exact HI0.out))); (case side2 => repeat ((with_reducible exact HB.out))); rintro e w83 ⟨rfl, hi, hb, hk⟩; refine ⟨_, rfl, ?_⟩; have n0_ := Aside0.mk (Kd.R_mono (Kd.R_keep (IsS79.apart (show IsS79 w0 _ g s0_0 t396 t397 from by repeat ((with_reducible exact HI0.out))) (by (with_reducible repeat (first | apply Kd.R_alloc | apply Kd.R_drewN | apply Kd.R_drew)); exact HO_3.out) (by decide)) hk (fun _ h => h.2)) (fun _ h => h.1)); have n1_ := Aside0.mk (KeepBut.blk hk (g' := gb371) (o := .cells #[.int .i64 0, .slice none 0 0, .slice none 0 0] 37 (0, 0)) (by (with_reducible repeat (first | refine blk_drewN ?_ _ | refine blk_drew ?_ | refine blk_alloc ?_ _)); exact BK371.out) NB371_0.out (by simp)); have n2_ := Aside0.mk (Kd.R_mono (Kd.R_keep (IsS79.apart (show IsS79 w0 _ g s0_0 t396 t397 from by repeat ((with_reducible exact HI0.out))) (by (with_reducible repeat (first | apply Kd.R_alloc | apply Kd.R_drewN | apply Kd.R_drew)); exact HO392.out) (by decide)) hk (fun _ h => h.2)) (fun _ h => h.1)); have n3_ := Aside0.mk (KeepBut.blk hk (g' := gb394) (o := .cells #[.int .i64 t386, .slice Ao78 t387.length co78, .slice Ao79 t390.length co79] 37 (0, 0)) (by (with_reducible repeat (first | refine blk_drewN ?_ _ | refine blk_drew ?_ | refine blk_alloc ?_ _)); exact BK394.out) NB394_0.out (by simp)); have n4_ := Aside0.mk (Kd.R_mono (Kd.R_keep (IsS79.apart (show IsS79 w0 _ g s0_0 t396 t397 from by repeat ((with_reducible exact HI0.out))) (by (with_reducible repeat (first | apply Kd.R_alloc | apply Kd.R_drewN | apply Kd.R_drew)); exact HO417.out) (by decide)) hk (fun _ h => h.2)) (fun _ h => h.1)); have n5_ := Aside0.mk (KeepBut.trans (by repeat ((with_reducible exact HK.out))) hk (.inl rfl)); have n6_ := Aside0.mk (hb); have n7_ := Aside0.mk (hi); clear HO_3; clear BK371; clear HO392; clear BK394; clear HO417; clear HK; clear HB; clear HI0; have HO_3 := n0_; have BK371 := n1_; have HO392 := n2_; have BK394 := n3_; have HO417 := n4_; have HK := n5_; have HB := n6_; have HI0 := n7_; clear n0_ n1_ n2_ n3_ n4_ n5_ n6_ n7_; (try clear hb); (try clear hb2); (try clear hk); (try clear hi); obtain ⟨Ao84, co84, eo84⟩ := Kd.R_slice HO417.out; subst eo84; have q85 : (t418 : Int) ≤ ((y415.length : Int) : Int) := of_decide_eq_true (by (with_reducible assumption)); obtain ⟨i085, hi085, _, hsz85, _⟩ := info_parts info30; have hcut85 := cut_from (P := Try.prog) 27 30 .i64 Try.underlying27 hi085 1 hsz85 Ao84 y415.length co84 t418 (of_decide_eq_true (by (with_reducible assumption))) q85; have hr85 := Kd.Q_drop (k := (t418 : Int).toNat) (Kd.Q_of_R HO417.out) (by omega); obtain ⟨A85, hA85⟩ : ∃ A1, A1 = (if co84 = (t418 : Int).toNat then Ao84 else (Ao84 : Option Addr).map (·.add ((t418 : Int).toNat * 1))) := ⟨_, rfl⟩; obtain ⟨c85, hc85⟩ : ∃ c1, c1 = co84 - (t418 : Int).toNat := ⟨_, rfl⟩; have hy85 : y421.length = y415.length - (t418 : Int).toNat := (by rw [Ny421.out, List.length_drop]); rw [← Ny421.out] at hr85; rw [← hy85, ← hA85, ← hc85] at hcut85; replace hr85 : Kd.Q (Kd.int .u64) 30 w83 w.heap.size (fun k_ => some k_ ≠ (.slice Ao79 t390.length co79 : Value).ownBlock) (.slice A85 y421.length c85) y421 := (by rw [hA85, hc85, hy85]; exact hr85); have HE85 : Aside0 ((Value.slice A85 y421.length c85).ownBlock = (.slice Ao84 y415.length co84 : Value).ownBlock) := ⟨by rw [hA85]; split <;> (cases (Ao84 : Option Addr) <;> first | rfl | (simp [Value.ownBlock, add_block]; done))⟩; clear hy85 hi085 hsz85 HO417 hA85 hc85; have HO423 := Aside0.mk hr85; clear hr85; replace q85 := eq_true q85; have n_ := Aside0.mk (Kd.R_mono (ok' := fun k_ => (True ∧ some k_ ≠ (.slice A85 y421.length c85 : Value).ownBlock)) HO392.out (fun k_ hk => ⟨trivial, (by rw [HE85.out]; exact hk.2)⟩)); clear HO392; have HO392 := n_; clear n_; have hcz86_0 : w83.cell? ⟨gb394, 0, none⟩ = some (.int .i64 t386) := b69_ BK394.out 0 rfl; have hcz86_1 : w83.cell? ⟨gb394, 1, none⟩ = some (.slice Ao78 t387.length co78) := b69_ BK394.out 1 rfl; have hcz86_2 : w83.cell? ⟨gb394, 2, none⟩ = some (.slice Ao79 t390.length co79) := b69_ BK394.out 2 rfl; have hfz86_0 := blk_frozen BK394.out 0; have hfz86_1 := blk_frozen BK394.out 1; have hfz86_2 := blk_frozen BK394.out 2; have hnb87 := NB371_0.out; have hnc87 := NB0_371.out; have hcz88_0 : w83.cell? ⟨gb371, 0, none⟩ = some (.int .i64 0) := b69_ BK371.out 0 rfl; have hcz88_1 : w83.cell? ⟨gb371, 1, none⟩ = some (.slice none 0 0) := b69_ BK371.out 1 rfl; have hcz88_2 : w83.cell? ⟨gb371, 2, none⟩ = some (.slice none 0 0) := b69_ BK371.out 2 rfl; have hfz88_0 := blk_frozen BK371.out 0; have hfz88_1 := blk_frozen BK371.out 1; have hfz88_2 := blk_frozen BK371.out 2))
     refine bodyPost_ret (results_cell_row rfl _ _ gb371 37 #[.int .i64 t386, .slice A85 y421.length c85, .slice Ao79 t390.length co79] (0, 0) _ rfl (by (with_reducible repeat (first | refine blk_drewN ?_ _ | refine blk_drew ?_ | refine blk_alloc ?_ _)); refine blk_put (cs := #[.int .i64 t386, .slice A85 y421.length c85, .slice none 0 0]) ?_ 2 _ rfl; (with_reducible repeat (first | refine blk_drewN ?_ _ | refine blk_drew ?_ | refine blk_alloc ?_ _)); refine blk_put (cs := #[.int .i64 t386, .slice none 0 0, .slice none 0 0]) ?_ 1 _ rfl; (with_reducible repeat (first | refine blk_drewN ?_ _ | refine blk_drew ?_ | refine blk_alloc ?_ _)); refine blk_put (cs := #[.int .i64 0, .slice none 0 0, .slice none 0 0]) ?_ 0 _ rfl; (with_reducible repeat (first | refine blk_drewN ?_ _ | refine blk_drew ?_ | refine blk_alloc ?_ _)); refine blk_far ?_ NB371_394.out _; (with_reducible repeat (first | refine blk_drewN ?_ _ | refine blk_drew ?_ | refine blk_alloc ?_ _)); exact BK371.out) Try.underlying37 rfl (by kernel_rfl)) rfl ?_
     exact ⟨_, _, by rfl, by (with_reducible repeat (first | apply Kd.Q_alloc | apply Kd.Q_drewN | apply Kd.Q_drew)); exact Kd.Q_mono (Kd.Q_far (p := ⟨gb371, 2, none⟩) (Kd.Q_far (p := ⟨gb371, 1, none⟩) (Kd.Q_far (p := ⟨gb371, 0, none⟩) (Kd.Q_far (p := ⟨gb394, 1, none⟩) (Kd.Q_types (Kd.Q_types HO423.out BK394.out (by decide)) BK371.out (by decide)) (fun _ hk => by exact hk.1.2) (.slice A85 y421.length c85)) (fun _ hk => by exact hk.2) (.int .i64 t386)) (fun _ hk => by exact hk.2) (.slice A85 y421.length c85)) (fun _ hk => by exact hk.2) (.slice Ao79 t390.length co79)) (fun _ hk => by exact hk.1.1), by (with_reducible repeat (first | apply Kd.R_alloc | apply Kd.R_drewN | apply Kd.R_drew)); exact Kd.R_mono (Kd.R_far (p := ⟨gb371, 2, none⟩) (Kd.R_far (p := ⟨gb371, 1, none⟩) (Kd.R_far (p := ⟨gb371, 0, none⟩) (Kd.R_far (p := ⟨gb394, 1, none⟩) (Kd.R_types (Kd.R_types HO392.out BK394.out (by decide)) BK371.out (by decide)) (fun _ hk => by exact hk.1.2) (.slice A85 y421.length c85)) (fun _ hk => by exact hk.2) (.int .i64 t386)) (fun _ hk => by exact hk.2) (.slice A85 y421.length c85)) (fun _ hk => by exact hk.2) (.slice Ao79 t390.length co79)) (fun _ hk => by exact hk.1.1.2), by repeat ((with_reducible first | exact HI0.out | refine IsS79.far ?_ NB0_371.out _ | refine IsS79.far ?_ NB0_394.out _)), by repeat ((with_reducible first | exact HB.out | refine below_set ?_ GE371.out | refine below_set ?_ GE394.out)), by repeat ((with_reducible first | exact HK.out | refine keep_far ?_ GW371.out _ | refine keep_far ?_ GW394.out _))⟩
    rw [if_neg c67] at H
    have c67b0 : (t395 == 2) = false := beq_eq_false_iff_ne.mpr c67
    have c67b1 : (t395 != 2) = true := bne_iff_ne.mpr c67
    by_cases c89 : t395 = 3
    rotate_left
    ·
     rw [if_neg c89] at H
     have c89b0 : (t395 == 3) = false := beq_eq_false_iff_ne.mpr c89
     have c89b1 : (t395 != 3) = true := bne_iff_ne.mpr c89
     simp only [Option.some.injEq, Prod.mk.injEq] at H
     obtain ⟨rfl, rfl, rfl, rfl, rfl⟩ := H
     obtain ⟨Ao112, co112, eo112⟩ := Kd.R_slice HO_3.out
     subst eo112
     go_wp2_with (first | ((with_reducible refine gate_callee (f := 18) rfl ?_); refine goesL_ (some 20) rfl rfl Try.func18 (by kernel_rfl) rfl #[.slice Ao112 x3_3.length co112] rfl (by (try simp only [List.map_toArray, List.map_cons, List.map_nil]); rfl) ?_; (with_reducible refine (spec_PlanesOf.calls kj3 _ _ x3_3 t386 t387 t390 t393 _ ?side1 ?side2 A16.out).mono ?_); (case side1 => repeat (exact (Kd.R_reads' HO_3.out).2.2)); (case side2 => exact (Kd.R_reads' HO_3.out).2.1); rintro e w113 ⟨v388, v391, rfl, ho0, ho1, hb⟩; refine ⟨_, rfl, ?_⟩; have n0_ := Aside0.mk (Kd.R_below (by (with_reducible repeat (first | apply Kd.R_alloc | apply Kd.R_drewN | apply Kd.R_drew)); exact HO_3.out) hb); have n1_ := Aside0.mk (Kd.R_lower ho0 (keep_size (w := w) (g := g) (row := none) (by repeat ((with_reducible exact HK.out))))); have n2_ := Aside0.mk (Kd.R_lower ho1 (keep_size (w := w) (g := g) (row := none) (by repeat ((with_reducible exact HK.out))))); have n3_ := Aside0.mk (blk_below (g := gb371) (o := .cells #[.int .i64 0, .slice none 0 0, .slice none 0 0] 37 (0, 0)) (by (with_reducible repeat (first | refine blk_drewN ?_ _ | refine blk_drew ?_ | refine blk_alloc ?_ _)); exact BK371.out) hb); have n4_ := Aside0.mk (IsS79.below (by repeat ((with_reducible exact HI0.out))) hb); have n5_ := Aside0.mk (KeepBut.trans (by repeat ((with_reducible exact HK.out))) (KeepBut.of_below hb g none) (.inl rfl)); have n6_ := Aside0.mk (below_step (by repeat ((with_reducible exact HB.out))) hb); clear HO_3; clear BK371; clear HI0; clear HK; clear HB; have HO_3 := n0_; have HO389 := n1_; have HO392 := n2_; have BK371 := n3_; have HI0 := n4_; have HK := n5_; have HB := n6_; clear n0_ n1_ n2_ n3_ n4_ n5_ n6_; (try clear hb); (try clear hb2); (try clear hk); (try clear hi); (try clear ho0); (try clear ho1)) | ((with_reducible refine gate_dst (N := 4) rfl ?_); refine box_event ?hg (N := 4) ?hd (cs := #[.int .i64 0, .slice none 0 0, .slice none 0 0]) (t := 37) ?hr ?_; (case hd => rfl); (case hg => rfl); (case hr => (go_simp; done)); intro gb394 hg w114 hbox hb; have n0_ := Aside0.mk (Kd.R_below (by (with_reducible repeat (first | apply Kd.R_alloc | apply Kd.R_drewN | apply Kd.R_drew)); exact HO_3.out) hb); have n1_ := Aside0.mk (Kd.R_below (by (with_reducible repeat (first | apply Kd.R_alloc | apply Kd.R_drewN | apply Kd.R_drew)); exact HO389.out) hb); have n2_ := Aside0.mk (Kd.R_below (by (with_reducible repeat (first | apply Kd.R_alloc | apply Kd.R_drewN | apply Kd.R_drew)); exact HO392.out) hb); have n3_ := Aside0.mk (blk_below (g := gb371) (o := .cells #[.int .i64 0, .slice none 0 0, .slice none 0 0] 37 (0, 0)) (by (with_reducible repeat (first | refine blk_drewN ?_ _ | refine blk_drew ?_ | refine blk_alloc ?_ _)); exact BK371.out) hb); have n4_ := Aside0.mk (IsS79.below (by repeat ((with_reducible exact HI0.out))) hb); have n5_ := Aside0.mk (KeepBut.trans (by repeat ((with_reducible exact HK.out))) (KeepBut.of_below hb g none) (.inl rfl)); have n6_ := Aside0.mk (below_step (by repeat ((with_reducible exact HB.out))) hb); have n7_ := Aside0.mk (hbox); have n8_ := Aside0.mk ((by rw [hg]; exact (keep_size (w := w) (g := g) (row := none) (by repeat ((with_reducible exact HK.out)))) : w.heap.size ≤ gb394)); have n9_ := Aside0.mk ((Nat.le_trans HW0.out (by rw [hg]; exact (keep_size (w := w) (g := g) (row := none) (by repeat ((with_reducible exact HK.out)))) : w.heap.size ≤ gb394) : w0.heap.size ≤ gb394)); have n10_ := Aside0.mk ((by rw [hg]; exact Nat.ne_of_lt (blk_lt (g := gb371) (o := .cells #[.int .i64 0, .slice none 0 0, .slice none 0 0] 37 (0, 0)) (by (with_reducible repeat (first | refine blk_drewN ?_ _ | refine blk_drew ?_ | refine blk_alloc ?_ _)); exact BK371.out)) : gb371 ≠ gb394)); have n11_ := Aside0.mk ((by rw [hg]; exact Nat.ne_of_gt (blk_lt (g := gb371) (o := .cells #[.int .i64 0, .slice none 0 0, .slice none 0 0] 37 (0, 0)) (by (with_reducible repeat (first | refine blk_drewN ?_ _ | refine blk_drew ?_ | refine blk_alloc ?_ _)); exact BK371.out)) : gb394 ≠ gb371)); have n12_ := Aside0.mk ((by rw [hg]; exact Nat.ne_of_lt (IsS79.lt (show IsS79 w0 _ g s0_0 x1001_3 x1002_3 from by repeat ((with_reducible exact HI0.out)))) : g ≠ gb394)); have n13_ := Aside0.mk ((by rw [hg]; exact Nat.ne_of_gt (IsS79.lt (show IsS79 w0 _ g s0_0 x1001_3 x1002_3 from by repeat ((with_reducible exact HI0.out)))) : gb394 ≠ g)); clear HO_3; clear HO389; clear HO392; clear BK371; clear HI0; clear HK; clear HB; have HO_3 := n0_; have HO389 := n1_; have HO392 := n2_; have BK371 := n3_; have HI0 := n4_; have HK := n5_; have HB := n6_; have BK394 := n7_; have GW394 := n8_; have GE394 := n9_; have NB371_394 := n10_; have NB394_371 := n11_; have NB0_394 := n12_; have NB394_0 := n13_; clear n0_ n1_ n2_ n3_ n4_ n5_ n6_ n7_ n8_ n9_ n10_ n11_ n12_ n13_; clear hb hbox hg; have hnb115 := NB394_371.out; have hnc115 := NB371_394.out; have hnb116 := NB394_0.out; have hnc116 := NB0_394.out; have hcz117_0 : w114.cell? ⟨gb394, 0, none⟩ = some (.int .i64 0) := b69_ BK394.out 0 rfl; have hcz117_1 : w114.cell? ⟨gb394, 1, none⟩ = some (.slice none 0 0) := b69_ BK394.out 1 rfl; have hcz117_2 : w114.cell? ⟨gb394, 2, none⟩ = some (.slice none 0 0) := b69_ BK394.out 2 rfl; have hfz117_0 := blk_frozen BK394.out 0; have hfz117_1 := blk_frozen BK394.out 1; have hfz117_2 := blk_frozen BK394.out 2; obtain ⟨Ao118, co118, eo118⟩ := Kd.R_slice HO389.out; subst eo118; obtain ⟨Ao119, co119, eo119⟩ := Kd.R_slice HO392.out; subst eo119) | ((with_reducible refine gate_callee (f := 44) rfl ?_); refine goesL_ (some 24) rfl rfl Try.func44 (by kernel_rfl) rfl #[.pointer (some ⟨g, 0, none⟩), .int .i64 12] rfl (by (try simp only [List.map_toArray, List.map_cons, List.map_nil]); rfl) ?_; (with_reducible refine (spec_l01Cur_pick.calls g s0_0 x1001_3 x1002_3 12 t395 t396 t397 w0 _ ?side1 ?side2 A17.out).mono ?_); (case side1 => repeat ((with_reducible first | exact HI0.out | refine IsS79.far ?_ NB0_394.out _))); (case side2 => repeat ((with_reducible first | exact HB.out | refine below_set ?_ GE394.out))); rintro e w120 ⟨rfl, hi, hb, hk⟩; refine ⟨_, rfl, ?_⟩; have n0_ := Aside0.mk (Kd.R_mono (Kd.R_keep (IsS79.apart (show IsS79 w0 _ g s0_0 x1001_3 x1002_3 from by repeat ((with_reducible first | exact HI0.out | refine IsS79.far ?_ NB0_394.out _))) (by (with_reducible repeat (first | apply Kd.R_alloc | apply Kd.R_drewN | apply Kd.R_drew)); exact (Kd.R_mono (Kd.R_far (p := ⟨gb394, 2, none⟩) (Kd.R_far (p := ⟨gb394, 1, none⟩) (Kd.R_far (p := ⟨gb394, 0, none⟩) (Kd.R_types HO_3.out BK394.out (by decide)) (fun _ hk => by exact hk.2) (.int .i64 t386)) (fun _ hk => by exact hk.2) (.slice Ao118 t387.length co118)) (fun _ hk => by exact hk.2) (.slice Ao119 t390.length co119)) (fun _ h_ => h_.1))) (by decide)) hk (fun _ h => h.2)) (fun _ h => h.1)); have n1_ := Aside0.mk (KeepBut.blk hk (g' := gb371) (o := .cells #[.int .i64 0, .slice none 0 0, .slice none 0 0] 37 (0, 0)) (by (with_reducible repeat (first | refine blk_drewN ?_ _ | refine blk_drew ?_ | refine blk_alloc ?_ _)); refine blk_far ?_ NB371_394.out _; (with_reducible repeat (first | refine blk_drewN ?_ _ | refine blk_drew ?_ | refine blk_alloc ?_ _)); refine blk_far ?_ NB371_394.out _; (with_reducible repeat (first | refine blk_drewN ?_ _ | refine blk_drew ?_ | refine blk_alloc ?_ _)); refine blk_far ?_ NB371_394.out _; (with_reducible repeat (first | refine blk_drewN ?_ _ | refine blk_drew ?_ | refine blk_alloc ?_ _)); exact BK371.out) NB371_0.out (by simp)); have n2_ := Aside0.mk (Kd.R_mono (Kd.R_keep (IsS79.apart (show IsS79 w0 _ g s0_0 x1001_3 x1002_3 from by repeat ((with_reducible first | exact HI0.out | refine IsS79.far ?_ NB0_394.out _))) (by (with_reducible repeat (first | apply Kd.R_alloc | apply Kd.R_drewN | apply Kd.R_drew)); exact (Kd.R_mono (Kd.R_far (p := ⟨gb394, 2, none⟩) (Kd.R_far (p := ⟨gb394, 1, none⟩) (Kd.R_far (p := ⟨gb394, 0, none⟩) (Kd.R_types HO389.out BK394.out (by decide)) (fun _ hk => by exact hk.2) (.int .i64 t386)) (fun _ hk => by exact hk.2) (.slice Ao118 t387.length co118)) (fun _ hk => by exact hk.2) (.slice Ao119 t390.length co119)) (fun _ h_ => h_.1))) (by decide)) hk (fun _ h => h.2)) (fun _ h => h.1)); have n3_ := Aside0.mk (Kd.R_mono (Kd.R_keep (IsS79.apart (show IsS79 w0 _ g s0_0 x1001_3 x1002_3 from by repeat ((with_reducible first | exact HI0.out | refine IsS79.far ?_ NB0_394.out _))) (by (with_reducible repeat (first | apply Kd.R_alloc | apply Kd.R_drewN | apply Kd.R_drew)); exact (Kd.R_mono (Kd.R_far (p := ⟨gb394, 2, none⟩) (Kd.R_far (p := ⟨gb394, 1, none⟩) (Kd.R_far (p := ⟨gb394, 0, none⟩) (Kd.R_types HO392.out BK394.out (by decide)) (fun _ hk => by exact hk.2) (.int .i64 t386)) (fun _ hk => by exact hk.2) (.slice Ao118 t387.length co118)) (fun _ hk => by exact hk.2) (.slice Ao119 t390.length co119)) (fun _ h_ => h_.1))) (by decide)) hk (fun _ h => h.2)) (fun _ h => h.1)); have n4_ := Aside0.mk (KeepBut.blk hk (g' := gb394) (o := .cells #[.int .i64 t386, .slice Ao118 t387.length co118, .slice Ao119 t390.length co119] 37 (0, 0)) (by (with_reducible repeat (first | refine blk_drewN ?_ _ | refine blk_drew ?_ | refine blk_alloc ?_ _)); refine blk_put (cs := #[.int .i64 t386, .slice Ao118 t387.length co118, .slice none 0 0]) ?_ 2 _ rfl; (with_reducible repeat (first | refine blk_drewN ?_ _ | refine blk_drew ?_ | refine blk_alloc ?_ _)); refine blk_put (cs := #[.int .i64 t386, .slice none 0 0, .slice none 0 0]) ?_ 1 _ rfl; (with_reducible repeat (first | refine blk_drewN ?_ _ | refine blk_drew ?_ | refine blk_alloc ?_ _)); refine blk_put (cs := #[.int .i64 0, .slice none 0 0, .slice none 0 0]) ?_ 0 _ rfl; (with_reducible repeat (first | refine blk_drewN ?_ _ | refine blk_drew ?_ | refine blk_alloc ?_ _)); exact BK394.out) NB394_0.out (by simp)); have n5_ := Aside0.mk (KeepBut.trans (by repeat ((with_reducible first | exact HK.out | refine keep_far ?_ GW394.out _))) hk (.inl rfl)); have n6_ := Aside0.mk (hb); have n7_ := Aside0.mk (hi); clear HO_3; clear BK371; clear HO389; clear HO392; clear BK394; clear HK; clear HB; clear HI0; have HO_3 := n0_; have BK371 := n1_; have HO389 := n2_; have HO392 := n3_; have BK394 := n4_; have HK := n5_; have HB := n6_; have HI0 := n7_; clear n0_ n1_ n2_ n3_ n4_ n5_ n6_ n7_; (try clear hb); (try clear hb2); (try clear hk); (try clear hi); have hcz121_0 : w120.cell? ⟨gb394, 0, none⟩ = some (.int .i64 t386) := b69_ BK394.out 0 rfl; have hcz121_1 : w120.cell? ⟨gb394, 1, none⟩ = some (.slice Ao118 t387.length co118) := b69_ BK394.out 1 rfl; have hcz121_2 : w120.cell? ⟨gb394, 2, none⟩ = some (.slice Ao119 t390.length co119) := b69_ BK394.out 2 rfl; have hfz121_0 := blk_frozen BK394.out 0; have hfz121_1 := blk_frozen BK394.out 1; have hfz121_2 := blk_frozen BK394.out 2; have hnb122 := NB371_0.out; have hnc122 := NB0_371.out; have hcz123_0 : w120.cell? ⟨gb371, 0, none⟩ = some (.int .i64 0) := b69_ BK371.out 0 rfl; have hcz123_1 : w120.cell? ⟨gb371, 1, none⟩ = some (.slice none 0 0) := b69_ BK371.out 1 rfl; have hcz123_2 : w120.cell? ⟨gb371, 2, none⟩ = some (.slice none 0 0) := b69_ BK371.out 2 rfl; have hfz123_0 := blk_frozen BK371.out 0; have hfz123_1 := blk_frozen BK371.out 1; have hfz123_2 := blk_frozen BK371.out 2))
     refine bodyPost_ret (results_cell_row rfl _ _ gb371 37 #[.int .i64 t386, .slice Ao118 t387.length co118, .slice Ao119 t390.length co119] (0, 0) _ rfl (by (with_reducible repeat (first | refine blk_drewN ?_ _ | refine blk_drew ?_ | refine blk_alloc ?_ _)); refine blk_put (cs := #[.int .i64 t386, .slice Ao118 t387.length co118, .slice none 0 0]) ?_ 2 _ rfl; (with_reducible repeat (first | refine blk_drewN ?_ _ | refine blk_drew ?_ | refine blk_alloc ?_ _)); refine blk_put (cs := #[.int .i64 t386, .slice none 0 0, .slice none 0 0]) ?_ 1 _ rfl; (with_reducible repeat (first | refine blk_drewN ?_ _ | refine blk_drew ?_ | refine blk_alloc ?_ _)); refine blk_put (cs := #[.int .i64 0, .slice none 0 0, .slice none 0 0]) ?_ 0 _ rfl; (with_reducible repeat (first | refine blk_drewN ?_ _ | refine blk_drew ?_ | refine blk_alloc ?_ _)); exact BK371.out) Try.underlying37 rfl (by kernel_rfl)) rfl ?_
     exact ⟨_, _, by rfl, Kd.Q_of_R (by (with_reducible repeat (first | apply Kd.R_alloc | apply Kd.R_drewN | apply Kd.R_drew)); exact Kd.R_mono (Kd.R_far (p := ⟨gb371, 2, none⟩) (Kd.R_far (p := ⟨gb371, 1, none⟩) (Kd.R_far (p := ⟨gb371, 0, none⟩) (Kd.R_types HO389.out BK371.out (by decide)) (fun _ hk => by exact hk.2) (.int .i64 t386)) (fun _ hk => by exact hk.2) (.slice Ao118 t387.length co118)) (fun _ hk => by exact hk.2) (.slice Ao119 t390.length co119)) (fun _ hk => by exact hk.1)), by (with_reducible repeat (first | apply Kd.R_alloc | apply Kd.R_drewN | apply Kd.R_drew)); exact Kd.R_mono (Kd.R_far (p := ⟨gb371, 2, none⟩) (Kd.R_far (p := ⟨gb371, 1, none⟩) (Kd.R_far (p := ⟨gb371, 0, none⟩) (Kd.R_types HO392.out BK371.out (by decide)) (fun _ hk => by exact hk.2) (.int .i64 t386)) (fun _ hk => by exact hk.2) (.slice Ao118 t387.length co118)) (fun _ hk => by exact hk.2) (.slice Ao119 t390.length co119)) (fun _ hk => by exact hk.1), by repeat ((with_reducible first | exact HI0.out | refine IsS79.far ?_ NB0_371.out _)), by repeat ((with_reducible first | exact HB.out | refine below_set ?_ GE371.out)), by repeat ((with_reducible first | exact HK.out | refine keep_far ?_ GW371.out _))⟩
    rw [if_pos c89] at H
    have c89b0 : (t395 == 3) = true := beq_iff_eq.mpr c89
    have c89b1 : (t395 != 3) = false := bne_eq_false_iff_eq.mpr c89
    clear c89
    replace H := Option.bind_eq_some_iff.mp H
    obtain ⟨⟨t424, t425, t426⟩, A900, H⟩ := H
    replace H : ((spec_l01Cur_bits.f kj3 s0_0 t425 t426).bind fun bt427 => (if 0 ≤ t424 then (if t424 < (t387.length : Int) then (some (t386, (t387.set (t424 : Int).toNat bt427.1), t390, bt427.2.1, bt427.2.2)) else (none)) else (none))) = some (r1, r2, r3, r4, r5) := H
    have A90 := Aside0.mk A900
    clear A900
    replace H := Option.bind_eq_some_iff.mp H
    obtain ⟨⟨t427, t428, t429⟩, A910, H⟩ := H
    replace H : (if 0 ≤ t424 then (if t424 < (t387.length : Int) then (some (t386, (t387.set (t424 : Int).toNat t427), t390, t428, t429)) else (none)) else (none)) = some (r1, r2, r3, r4, r5) := H
    have A91 := Aside0.mk A910
    clear A910
    by_cases c92 : 0 ≤ t424
    rotate_left
    ·
     rw [if_neg c92] at H
     exact absurd H (by simp)
    rw [if_pos c92] at H
    have c92b0 : decide (0 ≤ t424) = true := decide_eq_true c92
    clear c92
    by_cases c93 : t424 < (t387.length : Int)
    rotate_left
    ·
     rw [if_neg c93] at H
     exact absurd H (by simp)
    rw [if_pos c93] at H
    have c93b0 : decide (t424 < (t387.length : Int)) = true := decide_eq_true c93
    clear c93
    obtain ⟨y430, hy430⟩ : ∃ y_ : List Int, y_ = (t387.set (t424 : Int).toNat t427) := ⟨_, rfl⟩
    replace H : (some (t386, y430, t390, t428, t429)) = some (r1, r2, r3, r4, r5) := by (rw [hy430]; with_reducible exact H)
    have Ny430 := Aside0.mk hy430
    clear hy430
    simp only [Option.some.injEq, Prod.mk.injEq] at H
    obtain ⟨rfl, rfl, rfl, rfl, rfl⟩ := H
    obtain ⟨Ao95, co95, eo95⟩ := Kd.R_slice HO_3.out
    subst eo95
    try go_wp2_with (first | ((with_reducible refine gate_callee (f := 18) rfl ?_); refine goesL_ (some 20) rfl rfl Try.func18 (by kernel_rfl) rfl #[.slice Ao95 x3_3.length co95] rfl (by (try simp only [List.map_toArray, List.map_cons, List.map_nil]); rfl) ?_; (with_reducible refine (spec_PlanesOf.calls kj3 _ _ x3_3 t386 t387 t390 t393 _ ?side1 ?side2 A16.out).mono ?_); (case side1 => repeat (exact (Kd.R_reads' HO_3.out).2.2)); (case side2 => exact (Kd.R_reads' HO_3.out).2.1); rintro e w96 ⟨v388, v391, rfl, ho0, ho1, hb⟩; refine ⟨_, rfl, ?_⟩; have n0_ := Aside0.mk (Kd.R_below (by (with_reducible repeat (first | apply Kd.R_alloc | apply Kd.R_drewN | apply Kd.R_drew)); exact HO_3.out) hb); have n1_ := Aside0.mk (Kd.R_lower ho0 (keep_size (w := w) (g := g) (row := none) (by repeat ((with_reducible exact HK.out))))); have n2_ := Aside0.mk (Kd.R_lower ho1 (keep_size (w := w) (g := g) (row := none) (by repeat ((with_reducible exact HK.out))))); have n3_ := Aside0.mk (blk_below (g := gb371) (o := .cells #[.int .i64 0, .slice none 0 0, .slice none 0 0] 37 (0, 0)) (by (with_reducible repeat (first | refine blk_drewN ?_ _ | refine blk_drew ?_ | refine blk_alloc ?_ _)); exact BK371.out) hb); have n4_ := Aside0.mk (IsS79.below (by repeat ((with_reducible exact HI0.out))) hb); have n5_ := Aside0.mk (KeepBut.trans (by repeat ((with_reducible exact HK.out))) (KeepBut.of_below hb g none) (.inl rfl)); have n6_ := Aside0.mk (below_step (by repeat ((with_reducible exact HB.out))) hb); clear HO_3; clear BK371; clear HI0; clear HK; clear HB; have HO_3 := n0_; have HO389 := n1_; have HO392 := n2_; have BK371 := n3_; have HI0 := n4_; have HK := n5_; have HB := n6_; clear n0_ n1_ n2_ n3_ n4_ n5_ n6_; (try clear hb); (try clear hb2); (try clear hk); (try clear hi); (try clear ho0); (try clear ho1)) | ((with_reducible refine gate_dst (N := 4) rfl ?_); refine box_event ?hg (N := 4) ?hd (cs := #[.int .i64 0, .slice none 0 0, .slice none 0 0]) (t := 37) ?hr ?_; (case hd => rfl); (case hg => rfl); (case hr => (go_simp; done)); intro gb394 hg w97 hbox hb; have n0_ := Aside0.mk (Kd.R_below (by (with_reducible repeat (first | apply Kd.R_alloc | apply Kd.R_drewN | apply Kd.R_drew)); exact HO_3.out) hb); have n1_ := Aside0.mk (Kd.R_below (by (with_reducible repeat (first | apply Kd.R_alloc | apply Kd.R_drewN | apply Kd.R_drew)); exact HO389.out) hb); have n2_ := Aside0.mk (Kd.R_below (by (with_reducible repeat (first | apply Kd.R_alloc | apply Kd.R_drewN | apply Kd.R_drew)); exact HO392.out) hb); have n3_ := Aside0.mk (blk_below (g := gb371) (o := .cells #[.int .i64 0, .slice none 0 0, .slice none 0 0] 37 (0, 0)) (by (with_reducible repeat (first | refine blk_drewN ?_ _ | refine blk_drew ?_ | refine blk_alloc ?_ _)); exact BK371.out) hb); have n4_ := Aside0.mk (IsS79.below (by repeat ((with_reducible exact HI0.out))) hb); have n5_ := Aside0.mk (KeepBut.trans (by repeat ((with_reducible exact HK.out))) (KeepBut.of_below hb g none) (.inl rfl)); have n6_ := Aside0.mk (below_step (by repeat ((with_reducible exact HB.out))) hb); have n7_ := Aside0.mk (hbox); have n8_ := Aside0.mk ((by rw [hg]; exact (keep_size (w := w) (g := g) (row := none) (by repeat ((with_reducible exact HK.out)))) : w.heap.size ≤ gb394)); have n9_ := Aside0.mk ((Nat.le_trans HW0.out (by rw [hg]; exact (keep_size (w := w) (g := g) (row := none) (by repeat ((with_reducible exact HK.out)))) : w.heap.size ≤ gb394) : w0.heap.size ≤ gb394)); have n10_ := Aside0.mk ((by rw [hg]; exact Nat.ne_of_lt (blk_lt (g := gb371) (o := .cells #[.int .i64 0, .slice none 0 0, .slice none 0 0] 37 (0, 0)) (by (with_reducible repeat (first | refine blk_drewN ?_ _ | refine blk_drew ?_ | refine blk_alloc ?_ _)); exact BK371.out)) : gb371 ≠ gb394)); have n11_ := Aside0.mk ((by rw [hg]; exact Nat.ne_of_gt (blk_lt (g := gb371) (o := .cells #[.int .i64 0, .slice none 0 0, .slice none 0 0] 37 (0, 0)) (by (with_reducible repeat (first | refine blk_drewN ?_ _ | refine blk_drew ?_ | refine blk_alloc ?_ _)); exact BK371.out)) : gb394 ≠ gb371)); have n12_ := Aside0.mk ((by rw [hg]; exact Nat.ne_of_lt (IsS79.lt (show IsS79 w0 _ g s0_0 x1001_3 x1002_3 from by repeat ((with_reducible exact HI0.out)))) : g ≠ gb394)); have n13_ := Aside0.mk ((by rw [hg]; exact Nat.ne_of_gt (IsS79.lt (show IsS79 w0 _ g s0_0 x1001_3 x1002_3 from by repeat ((with_reducible exact HI0.out)))) : gb394 ≠ g)); clear HO_3; clear HO389; clear HO392; clear BK371; clear HI0; clear HK; clear HB; have HO_3 := n0_; have HO389 := n1_; have HO392 := n2_; have BK371 := n3_; have HI0 := n4_; have HK := n5_; have HB := n6_; have BK394 := n7_; have GW394 := n8_; have GE394 := n9_; have NB371_394 := n10_; have NB394_371 := n11_; have NB0_394 := n12_; have NB394_0 := n13_; clear n0_ n1_ n2_ n3_ n4_ n5_ n6_ n7_ n8_ n9_ n10_ n11_ n12_ n13_; clear hb hbox hg; have hnb98 := NB394_371.out; have hnc98 := NB371_394.out; have hnb99 := NB394_0.out; have hnc99 := NB0_394.out; have hcz100_0 : w97.cell? ⟨gb394, 0, none⟩ = some (.int .i64 0) := b69_ BK394.out 0 rfl; have hcz100_1 : w97.cell? ⟨gb394, 1, none⟩ = some (.slice none 0 0) := b69_ BK394.out 1 rfl; have hcz100_2 : w97.cell? ⟨gb394, 2, none⟩ = some (.slice none 0 0) := b69_ BK394.out 2 rfl; have hfz100_0 := blk_frozen BK394.out 0; have hfz100_1 := blk_frozen BK394.out 1; have hfz100_2 := blk_frozen BK394.out 2; obtain ⟨Ao101, co101, eo101⟩ := Kd.R_slice HO389.out; subst eo101; obtain ⟨Ao102, co102, eo102⟩ := Kd.R_slice HO392.out; subst eo102) | ((with_reducible refine gate_callee (f := 44) rfl ?_); refine goesL_ (some 24) rfl rfl Try.func44 (by kernel_rfl) rfl #[.pointer (some ⟨g, 0, none⟩), .int .i64 12] rfl (by (try simp only [List.map_toArray, List.map_cons, List.map_nil]); rfl) ?_; (with_reducible refine (spec_l01Cur_pick.calls g s0_0 x1001_3 x1002_3 12 t395 t396 t397 w0 _ ?side1 ?side2 A17.out).mono ?_); (case side1 => repeat ((with_reducible first | exact HI0.out | refine IsS79.far ?_ NB0_394.out _))); (case side2 => repeat ((with_reducible first | exact HB.out | refine below_set ?_ GE394.out))); rintro e w103 ⟨rfl, hi, hb, hk⟩; refine ⟨_, rfl, ?_⟩; have n0_ := Aside0.mk (Kd.R_mono (Kd.R_keep (IsS79.apart (show IsS79 w0 _ g s0_0 x1001_3 x1002_3 from by repeat ((with_reducible first | exact HI0.out | refine IsS79.far ?_ NB0_394.out _))) (by (with_reducible repeat (first | apply Kd.R_alloc | apply Kd.R_drewN | apply Kd.R_drew)); exact (Kd.R_mono (Kd.R_far (p := ⟨gb394, 2, none⟩) (Kd.R_far (p := ⟨gb394, 1, none⟩) (Kd.R_far (p := ⟨gb394, 0, none⟩) (Kd.R_types HO_3.out BK394.out (by decide)) (fun _ hk => by exact hk.2) (.int .i64 t386)) (fun _ hk => by exact hk.2) (.slice Ao101 t387.length co101)) (fun _ hk => by exact hk.2) (.slice Ao102 t390.length co102)) (fun _ h_ => h_.1))) (by decide)) hk (fun _ h => h.2)) (fun _ h => h.1)); have n1_ := Aside0.mk (KeepBut.blk hk (g' := gb371) (o := .cells #[.int .i64 0, .slice none 0 0, .slice none 0 0] 37 (0, 0)) (by (with_reducible repeat (first | refine blk_drewN ?_ _ | refine blk_drew ?_ | refine blk_alloc ?_ _)); refine blk_far ?_ NB371_394.out _; (with_reducible repeat (first | refine blk_drewN ?_ _ | refine blk_drew ?_ | refine blk_alloc ?_ _)); refine blk_far ?_ NB371_394.out _; (with_reducible repeat (first | refine blk_drewN ?_ _ | refine blk_drew ?_ | refine blk_alloc ?_ _)); refine blk_far ?_ NB371_394.out _; (with_reducible repeat (first | refine blk_drewN ?_ _ | refine blk_drew ?_ | refine blk_alloc ?_ _)); exact BK371.out) NB371_0.out (by simp)); have n2_ := Aside0.mk (Kd.R_mono (Kd.R_keep (IsS79.apart (show IsS79 w0 _ g s0_0 x1001_3 x1002_3 from by repeat ((with_reducible first | exact HI0.out | refine IsS79.far ?_ NB0_394.out _))) (by (with_reducible repeat (first | apply Kd.R_alloc | apply Kd.R_drewN | apply Kd.R_drew)); exact (Kd.R_mono (Kd.R_far (p := ⟨gb394, 2, none⟩) (Kd.R_far (p := ⟨gb394, 1, none⟩) (Kd.R_far (p := ⟨gb394, 0, none⟩) (Kd.R_types HO389.out BK394.out (by decide)) (fun _ hk => by exact hk.2) (.int .i64 t386)) (fun _ hk => by exact hk.2) (.slice Ao101 t387.length co101)) (fun _ hk => by exact hk.2) (.slice Ao102 t390.length co102)) (fun _ h_ => h_.1))) (by decide)) hk (fun _ h => h.2)) (fun _ h => h.1)); have n3_ := Aside0.mk (Kd.R_mono (Kd.R_keep (IsS79.apart (show IsS79 w0 _ g s0_0 x1001_3 x1002_3 from by repeat ((with_reducible first | exact HI0.out | refine IsS79.far ?_ NB0_394.out _))) (by (with_reducible repeat (first | apply Kd.R_alloc | apply Kd.R_drewN | apply Kd.R_drew)); exact (Kd.R_mono (Kd.R_far (p := ⟨gb394, 2, none⟩) (Kd.R_far (p := ⟨gb394, 1, none⟩) (Kd.R_far (p := ⟨gb394, 0, none⟩) (Kd.R_types HO392.out BK394.out (by decide)) (fun _ hk => by exact hk.2) (.int .i64 t386)) (fun _ hk => by exact hk.2) (.slice Ao101 t387.length co101)) (fun _ hk => by exact hk.2) (.slice Ao102 t390.length co102)) (fun _ h_ => h_.1))) (by decide)) hk (fun _ h => h.2)) (fun _ h => h.1)); have n4_ := Aside0.mk (KeepBut.blk hk (g' := gb394) (o := .cells #[.int .i64 t386, .slice Ao101 t387.length co101, .slice Ao102 t390.length co102] 37 (0, 0)) (by (with_reducible repeat (first | refine blk_drewN ?_ _ | refine blk_drew ?_ | refine blk_alloc ?_ _)); refine blk_put (cs := #[.int .i64 t386, .slice Ao101 t387.length co101, .slice none 0 0]) ?_ 2 _ rfl; (with_reducible repeat (first | refine blk_drewN ?_ _ | refine blk_drew ?_ | refine blk_alloc ?_ _)); refine blk_put (cs := #[.int .i64 t386, .slice none 0 0, .slice none 0 0]) ?_ 1 _ rfl; (with_reducible repeat (first | refine blk_drewN ?_ _ | refine blk_drew ?_ | refine blk_alloc ?_ _)); refine blk_put (cs := #[.int .i64 0, .slice none 0 0, .slice none 0 0]) ?_ 0 _ rfl; (with_reducible repeat (first | refine blk_drewN ?_ _ | refine blk_drew ?_ | refine blk_alloc ?_ _)); exact BK394.out) NB394_0.out (by simp)); have n5_ := Aside0.mk (KeepBut.trans (by repeat ((with_reducible first | exact HK.out | refine keep_far ?_ GW394.out _))) hk (.inl rfl)); have n6_ := Aside0.mk (hb); have n7_ := Aside0.mk (hi); clear HO_3; clear BK371; clear HO389; clear HO392; clear BK394; clear HK; clear HB; clear HI0; have HO_3 := n0_; have BK371 := n1_; have HO389 := n2_; have HO392 := n3_; have BK394 := n4_; have HK := n5_; have HB := n6_; have HI0 := n7_; clear n0_ n1_ n2_ n3_ n4_ n5_ n6_ n7_; (try clear hb); (try clear hb2); (try clear hk); (try clear hi)))
    replace HO_3 := Aside0.mk (Kd.R_drew HO_3.out)
    replace HO389 := Aside0.mk (Kd.R_drew HO389.out)
    replace HO392 := Aside0.mk (Kd.R_drew HO392.out)
    replace BK371 := Aside0.mk (blk_drew BK371.out)
    replace BK394 := Aside0.mk (blk_drew BK394.out)
    replace HI0 := Aside0.mk (IsS79.drew HI0.out)
    replace HK := Aside0.mk (keep_drew HK.out)
    replace HB := Aside0.mk (below_drew1 HB.out)
    refine start_ (n := 8) (S := fun w' => w'.cell? ⟨gb394, 0, none⟩ = some (.int .i64 t386) ∧ w'.cell? ⟨gb394, 1, none⟩ = some (.slice Ao101 t387.length co101) ∧ w'.cell? ⟨gb394, 2, none⟩ = some (.slice Ao102 t390.length co102)) (ds := [7]) #[false, false, false, false, false, false, false, false] (by kernel_rfl) rfl rfl ⟨b69_ BK394.out 0 rfl, b69_ BK394.out 1 rfl, b69_ BK394.out 2 rfl⟩ (fun hHeld => ?_); refine with_tabW spec_l01Cur_planes.tab14 spec_l01Cur_planes.bits14 (fun HT_ HW_ => ?_)
    generalize w103.drew = w104 at HO_3 HO389 HO392 BK371 BK394 HI0 HK HB hHeld ⊢
    refine pure_ (i := 0) (N := some 59) (v := ?_) (a' := ?_) #[true, false, false, false, false, false, false, false] rfl rfl (any_of HT_.out (by kernel_rfl)) (fun _ _ _ h => h) (Or.inl ⟨by rfl, ?_⟩) ?_ ?_
    rotate_left
    ·
     intro w'
     go_simp
     with_reducible rfl
    rotate_left
    ·
     simp only [Act.put, List.setIfInBounds_toArray, List.set_cons_zero, List.set_cons_succ, i64_w, i32_w]
     rfl
    refine pure_ (i := 2) (N := some 61) (v := ?_) (a' := ?_) #[true, false, true, false, false, false, false, false] rfl rfl (any_of HT_.out (by kernel_rfl)) (fun _ _ _ h => h) (Or.inl ⟨by rfl, ?_⟩) ?_ ?_
    rotate_left
    ·
     intro w'
     go_simp
     with_reducible rfl
    rotate_left
    ·
     simp only [Act.put, List.setIfInBounds_toArray, List.set_cons_zero, List.set_cons_succ, i64_w, i32_w]
     rfl
    refine pure_ (i := 4) (N := some 63) (v := ?_) (a' := ?_) #[true, false, true, false, true, false, false, false] rfl rfl (any_of HT_.out (by kernel_rfl)) (fun _ _ _ h => h) (Or.inl ⟨by rfl, ?_⟩) ?_ ?_
    rotate_left
    ·
     intro w'
     go_simp
     with_reducible rfl
    rotate_left
    ·
     simp only [Act.put, List.setIfInBounds_toArray, List.set_cons_zero, List.set_cons_succ, i64_w, i32_w]
     rfl
    refine take_ (i := 1) (N := some 60) (v := ?_) (a' := ?_) #[true, true, true, false, true, false, false, false] rfl rfl (take_ofW HT_.out HW_.out (by kernel_rfl)) (fun _ _ _ h => h) (Or.inl ⟨by rfl, ?_⟩) hHeld ?_ ?_
    rotate_left
    ·
     rintro w' ⟨s0, s1, s2⟩
     go_simp
     with_reducible rfl
    rotate_left
    ·
     simp only [Act.put, List.setIfInBounds_toArray, List.set_cons_zero, List.set_cons_succ, i64_w, i32_w]
     rfl
    refine one_ (i := 3) (N := some 62) #[true, true, true, true, true, false, false, false] rfl rfl (one_of HT_.out (by kernel_rfl)) (by decide) (fun K hK => ?_)
    refine goes_ Try.func44 (by kernel_rfl) rfl #[.pointer (some ⟨g, 0, none⟩), .int .i64 6] (by rfl) rfl rfl (by (try simp only [List.map_toArray, List.map_cons, List.map_nil]); rfl) ?_
    with_reducible refine (spec_l01Cur_pick.calls g s0_0 t396 t397 6 t424 t425 t426 w0 _ ?side1 ?side2 A90.out).mono ?_
    (case side1 => repeat ((with_reducible exact HI0.out)))
    (case side2 => repeat ((with_reducible exact HB.out)))
    rintro e w105 ⟨rfl, hi, hb, hk⟩
    refine ⟨_, rfl, ?_⟩
    replace HO_3 := Aside0.mk (Kd.R_mono (Kd.R_keep (IsS79.apart (show IsS79 w0 _ g s0_0 t396 t397 from by repeat ((with_reducible exact HI0.out))) (by (with_reducible repeat (first | apply Kd.R_alloc | apply Kd.R_drewN | apply Kd.R_drew)); exact HO_3.out) (by decide)) hk (fun _ h => h.2)) (fun _ h => h.1))
    replace BK371 := Aside0.mk (KeepBut.blk hk (g' := gb371) (o := .cells #[.int .i64 0, .slice none 0 0, .slice none 0 0] 37 (0, 0)) BK371.out NB371_0.out (by simp))
    replace HO389 := Aside0.mk (Kd.R_mono (Kd.R_keep (IsS79.apart (show IsS79 w0 _ g s0_0 t396 t397 from by repeat ((with_reducible exact HI0.out))) (by (with_reducible repeat (first | apply Kd.R_alloc | apply Kd.R_drewN | apply Kd.R_drew)); exact HO389.out) (by decide)) hk (fun _ h => h.2)) (fun _ h => h.1))
    replace HO392 := Aside0.mk (Kd.R_mono (Kd.R_keep (IsS79.apart (show IsS79 w0 _ g s0_0 t396 t397 from by repeat ((with_reducible exact HI0.out))) (by (with_reducible repeat (first | apply Kd.R_alloc | apply Kd.R_drewN | apply Kd.R_drew)); exact HO392.out) (by decide)) hk (fun _ h => h.2)) (fun _ h => h.1))
    replace BK394 := Aside0.mk (KeepBut.blk hk (g' := gb394) (o := .cells #[.int .i64 t386, .slice Ao101 t387.length co101, .slice Ao102 t390.length co102] 37 (0, 0)) BK394.out NB394_0.out (by simp))
    replace HK := Aside0.mk (KeepBut.trans (by repeat ((with_reducible exact HK.out))) hk (.inl rfl))
    replace HB := Aside0.mk (hb)
    replace HI0 := Aside0.mk (hi)
    (try clear hb)
    (try clear hb2)
    (try clear hk)
    (try clear hi)
    refine hK.out _ _ ⟨b69_ BK394.out 0 rfl, b69_ BK394.out 1 rfl, b69_ BK394.out 2 rfl⟩ (fun hHeld => ?_)
    clear hK K
    refine norm_ (a' := ?_) ?_ ?_
    rotate_left
    ·
     show Act.put _ (some 62) _ = _
     simp only [Act.put, List.setIfInBounds_toArray, List.set_cons_zero, List.set_cons_succ, i64_w, i32_w]
     rfl
    refine one_ (i := 5) (N := some 64) #[true, true, true, true, true, true, false, false] rfl rfl (one_of HT_.out (by kernel_rfl)) (by decide) (fun K hK => ?_)
    refine goes_ Try.func78 (by kernel_rfl) rfl #[.pointer (some ⟨g, 0, none⟩)] (by rfl) rfl rfl (by (try simp only [List.map_toArray, List.map_cons, List.map_nil]); rfl) ?_
    with_reducible refine (spec_l01Cur_bits.calls kj3 g s0_0 t425 t426 t427 t428 t429 w0 _ ?side1 ?side2 A91.out).mono ?_
    (case side1 => repeat ((with_reducible exact HI0.out)))
    (case side2 => repeat ((with_reducible exact HB.out)))
    rintro e w106 ⟨rfl, hi, hb, hk⟩
    refine ⟨_, rfl, ?_⟩
    replace HO_3 := Aside0.mk (Kd.R_mono (Kd.R_keep (IsS79.apart (show IsS79 w0 _ g s0_0 t425 t426 from by repeat ((with_reducible exact HI0.out))) (by (with_reducible repeat (first | apply Kd.R_alloc | apply Kd.R_drewN | apply Kd.R_drew)); exact HO_3.out) (by decide)) hk (fun _ h => h.2)) (fun _ h => h.1))
    replace BK371 := Aside0.mk (KeepBut.blk hk (g' := gb371) (o := .cells #[.int .i64 0, .slice none 0 0, .slice none 0 0] 37 (0, 0)) BK371.out NB371_0.out (by simp))
    replace HO389 := Aside0.mk (Kd.R_mono (Kd.R_keep (IsS79.apart (show IsS79 w0 _ g s0_0 t425 t426 from by repeat ((with_reducible exact HI0.out))) (by (with_reducible repeat (first | apply Kd.R_alloc | apply Kd.R_drewN | apply Kd.R_drew)); exact HO389.out) (by decide)) hk (fun _ h => h.2)) (fun _ h => h.1))
    replace HO392 := Aside0.mk (Kd.R_mono (Kd.R_keep (IsS79.apart (show IsS79 w0 _ g s0_0 t425 t426 from by repeat ((with_reducible exact HI0.out))) (by (with_reducible repeat (first | apply Kd.R_alloc | apply Kd.R_drewN | apply Kd.R_drew)); exact HO392.out) (by decide)) hk (fun _ h => h.2)) (fun _ h => h.1))
    replace BK394 := Aside0.mk (KeepBut.blk hk (g' := gb394) (o := .cells #[.int .i64 t386, .slice Ao101 t387.length co101, .slice Ao102 t390.length co102] 37 (0, 0)) BK394.out NB394_0.out (by simp))
    replace HK := Aside0.mk (KeepBut.trans (by repeat ((with_reducible exact HK.out))) hk (.inl rfl))
    replace HB := Aside0.mk (hb)
    replace HI0 := Aside0.mk (hi)
    (try clear hb)
    (try clear hb2)
    (try clear hk)
    (try clear hi)
    have p94 : 0 ≤ (t424 : Int) := of_decide_eq_true (by (with_reducible assumption))
    have q94 : (t424 : Int) < ((t387.length : Int) : Int) := of_decide_eq_true (by (with_reducible assumption))
    obtain ⟨go94, co94, eo94, gb94, gl94, cl94, HG94⟩ := Kd.R_form HO389.out (by omega)
    (cases eo94)
    have GB94 := Aside0.mk gb94
    have GG94 := Aside0.mk HG94
    clear gb94 gl94 HG94
    obtain ⟨hx94_0, hf94_0⟩ := Kd.R_celln 0 HO389.out (t424 : Int) p94 q94
    replace p94 := eq_true p94
    replace q94 := eq_true q94
    have HN0_go94 := Aside0.mk (show g ≠ go94 from by have h_ := IsS79.own_ne HI0.out HO389.out (by decide); intro e_; exact h_ (by rw [e_]; rfl))
    have HP107 := Kd.R_putn HO389.out (t424 : Int) t427
    rw [← Ny430.out] at HP107
    have HQ107 := Aside0.mk HP107
    clear HP107
    refine hK.out _ _ ⟨b69_ BK394.out 0 rfl, b69_ BK394.out 1 rfl, b69_ BK394.out 2 rfl⟩ (fun hHeld => ?_)
    clear hK K
    refine norm_ (a' := ?_) ?_ ?_
    rotate_left
    ·
     show Act.put _ (some 64) _ = _
     simp only [Act.put, List.setIfInBounds_toArray, List.set_cons_zero, List.set_cons_succ, i64_w, i32_w]
     rfl
    refine pure_ (i := 6) (N := some 65) (v := ?_) (a' := ?_) #[true, true, true, true, true, true, true, false] rfl rfl (any_of HT_.out (by kernel_rfl)) (fun _ _ _ h => h) (Or.inl ⟨by rfl, ?_⟩) ?_ ?_
    rotate_left
    ·
     intro w'
     go_simp
     with_reducible rfl
    rotate_left
    ·
     simp only [Act.put, List.setIfInBounds_toArray, List.set_cons_zero, List.set_cons_succ, i64_w, i32_w]
     rfl
    refine last_ (i := 7) (N := none) #[true, true, true, true, true, true, true, true] rfl rfl (one_of HT_.out (by kernel_rfl)) (by decide) (fun K hK => ?_)
    refine skip_ (w1 := ?_) (by rfl) rfl ?_ ?_
    rotate_left
    ·
     go_simp
     rfl
    refine hK.out _ _ ?_
    clear hK K
    refine done_ (done_of HT_.out (by kernel_rfl)) ?_
    have n0_ : Aside0 (Kd.R Kd.string 9 (w106.setCell ⟨go94, (t424 : Int).toNat, none⟩ (.int .u64 t427)) w.heap.size (fun _ => True) (.slice Ao95 x3_3.length co95) x3_3) := ⟨by (with_reducible repeat (first | apply Kd.R_alloc | apply Kd.R_drewN | apply Kd.R_drew)); exact Kd.R_mono (Kd.R_far (p := ⟨go94, (t424 : Int).toNat, none⟩) (Kd.R_types HO_3.out GG94.out (by decide)) (fun _ hk => by exact hk.2) (.int .u64 t427)) (fun _ hk => trivial)⟩
    have n1_ : Aside0 (Kd.R (Kd.int .u64) 30 (w106.setCell ⟨go94, (t424 : Int).toNat, none⟩ (.int .u64 t427)) w.heap.size (fun k_ => some k_ ≠ (.slice Ao102 t390.length co102 : Value).ownBlock) (.slice (some ⟨go94, 0, none⟩) t387.length co101) y430) := ⟨by (with_reducible repeat (first | apply Kd.R_alloc | apply Kd.R_drewN | apply Kd.R_drew)); exact HQ107.out⟩
    have n2_ : Aside0 (Kd.R (Kd.int .u64) 30 (w106.setCell ⟨go94, (t424 : Int).toNat, none⟩ (.int .u64 t427)) w.heap.size (fun k_ => some k_ ≠ (.slice (some ⟨go94, 0, none⟩) t387.length co101 : Value).ownBlock) (.slice Ao102 t390.length co102) t390) := ⟨by (with_reducible repeat (first | apply Kd.R_alloc | apply Kd.R_drewN | apply Kd.R_drew)); exact Kd.R_mono (Kd.R_far (p := ⟨go94, (t424 : Int).toNat, none⟩) (Kd.R_mono HO392.out (fun k_ hk => (⟨hk, fun e_ => hk (by rw [e_]; rfl)⟩ : _ ∧ k_ ≠ go94))) (fun _ hk => by exact hk.2) (.int .u64 t427)) (fun _ hk => by exact hk.1)⟩
    have n3_ : Aside0 ((w106.setCell ⟨go94, (t424 : Int).toNat, none⟩ (.int .u64 t427)).heap[gb371]? = some (.cells #[.int .i64 0, .slice none 0 0, .slice none 0 0] 37 (0, 0))) := ⟨by (with_reducible repeat (first | refine blk_drewN ?_ _ | refine blk_drew ?_ | refine blk_alloc ?_ _)); refine blk_far ?_ (by have h_ := Kd.R_ne HO389.out BK371.out (by decide); intro e_; exact h_ (by rw [e_]; rfl)) _; (with_reducible repeat (first | refine blk_drewN ?_ _ | refine blk_drew ?_ | refine blk_alloc ?_ _)); exact BK371.out⟩
    have n4_ : Aside0 ((w106.setCell ⟨go94, (t424 : Int).toNat, none⟩ (.int .u64 t427)).heap[gb394]? = some (.cells #[.int .i64 t386, .slice (some ⟨go94, 0, none⟩) t387.length co101, .slice Ao102 t390.length co102] 37 (0, 0))) := ⟨by (with_reducible repeat (first | refine blk_drewN ?_ _ | refine blk_drew ?_ | refine blk_alloc ?_ _)); refine blk_far ?_ (by have h_ := Kd.R_ne HO389.out BK394.out (by decide); intro e_; exact h_ (by rw [e_]; rfl)) _; (with_reducible repeat (first | refine blk_drewN ?_ _ | refine blk_drew ?_ | refine blk_alloc ?_ _)); exact BK394.out⟩
    have n5_ : Aside0 (IsS79 w0 (w106.setCell ⟨go94, (t424 : Int).toNat, none⟩ (.int .u64 t427)) g s0_0 t428 t429) := ⟨by repeat ((with_reducible first | exact HI0.out | refine IsS79.far ?_ HN0_go94.out _))⟩
    have n6_ : Aside0 (KeepBut w (w106.setCell ⟨go94, (t424 : Int).toNat, none⟩ (.int .u64 t427)) g none) := ⟨by repeat ((with_reducible first | exact HK.out | refine keep_far ?_ GB94.out _))⟩
    have n7_ : Aside0 (Below w0.heap.size w0 (w106.setCell ⟨go94, (t424 : Int).toNat, none⟩ (.int .u64 t427))) := ⟨by repeat ((with_reducible first | exact HB.out | refine below_set ?_ (Nat.le_trans HL.out GB94.out)))⟩
    (try clear HO_3)
    (try clear HO389)
    (try clear HO392)
    (try clear BK371)
    (try clear BK394)
    (try clear HI0)
    (try clear HK)
    (try clear HB)
    generalize (w106.setCell ⟨go94, (t424 : Int).toNat, none⟩ (.int .u64 t427)) = w108 at n0_ n1_ n2_ n3_ n4_ n5_ n6_ n7_ ⊢
    have HO_3 := n0_
    have HO389 := n1_
    have HO392 := n2_
    have BK371 := n3_
    have BK394 := n4_
    have HI0 := n5_
    have HK := n6_
    have HB := n7_
    clear n0_ n1_ n2_ n3_ n4_ n5_ n6_ n7_
    have hcz109_0 : w108.cell? ⟨gb394, 0, none⟩ = some (.int .i64 t386) := b69_ BK394.out 0 rfl
    have hcz109_1 : w108.cell? ⟨gb394, 1, none⟩ = some (.slice (some ⟨go94, 0, none⟩) t387.length co101) := b69_ BK394.out 1 rfl
    have hcz109_2 : w108.cell? ⟨gb394, 2, none⟩ = some (.slice Ao102 t390.length co102) := b69_ BK394.out 2 rfl
    have hfz109_0 := blk_frozen BK394.out 0
    have hfz109_1 := blk_frozen BK394.out 1
    have hfz109_2 := blk_frozen BK394.out 2
    have hnb110 := NB371_0.out
    have hnc110 := NB0_371.out
    have hcz111_0 : w108.cell? ⟨gb371, 0, none⟩ = some (.int .i64 0) := b69_ BK371.out 0 rfl
    have hcz111_1 : w108.cell? ⟨gb371, 1, none⟩ = some (.slice none 0 0) := b69_ BK371.out 1 rfl
    have hcz111_2 : w108.cell? ⟨gb371, 2, none⟩ = some (.slice none 0 0) := b69_ BK371.out 2 rfl
    have hfz111_0 := blk_frozen BK371.out 0
    have hfz111_1 := blk_frozen BK371.out 1
    have hfz111_2 := blk_frozen BK371.out 2
    try go_wp2
    refine bodyPost_ret (results_cell_row rfl _ _ gb371 37 #[.int .i64 t386, .slice (some ⟨go94, 0, none⟩) t387.length co101, .slice Ao102 t390.length co102] (0, 0) _ rfl (by (with_reducible repeat (first | refine blk_drewN ?_ _ | refine blk_drew ?_ | refine blk_alloc ?_ _)); refine blk_put (cs := #[.int .i64 t386, .slice (some ⟨go94, 0, none⟩) t387.length co101, .slice none 0 0]) ?_ 2 _ rfl; (with_reducible repeat (first | refine blk_drewN ?_ _ | refine blk_drew ?_ | refine blk_alloc ?_ _)); refine blk_put (cs := #[.int .i64 t386, .slice none 0 0, .slice none 0 0]) ?_ 1 _ rfl; (with_reducible repeat (first | refine blk_drewN ?_ _ | refine blk_drew ?_ | refine blk_alloc ?_ _)); refine blk_put (cs := #[.int .i64 0, .slice none 0 0, .slice none 0 0]) ?_ 0 _ rfl; (with_reducible repeat (first | refine blk_drewN ?_ _ | refine blk_drew ?_ | refine blk_alloc ?_ _)); exact BK371.out) Try.underlying37 rfl (by kernel_rfl)) rfl ?_
    exact ⟨_, _, by rfl, Kd.Q_of_R (by (with_reducible repeat (first | apply Kd.R_alloc | apply Kd.R_drewN | apply Kd.R_drew)); exact Kd.R_mono (Kd.R_far (p := ⟨gb371, 2, none⟩) (Kd.R_far (p := ⟨gb371, 1, none⟩) (Kd.R_far (p := ⟨gb371, 0, none⟩) (Kd.R_types HO389.out BK371.out (by decide)) (fun _ hk => by exact hk.2) (.int .i64 t386)) (fun _ hk => by exact hk.2) (.slice (some ⟨go94, 0, none⟩) t387.length co101)) (fun _ hk => by exact hk.2) (.slice Ao102 t390.length co102)) (fun _ hk => by exact hk.1)), by (with_reducible repeat (first | apply Kd.R_alloc | apply Kd.R_drewN | apply Kd.R_drew)); exact Kd.R_mono (Kd.R_far (p := ⟨gb371, 2, none⟩) (Kd.R_far (p := ⟨gb371, 1, none⟩) (Kd.R_far (p := ⟨gb371, 0, none⟩) (Kd.R_types HO392.out BK371.out (by decide)) (fun _ hk => by exact hk.2) (.int .i64 t386)) (fun _ hk => by exact hk.2) (.slice (some ⟨go94, 0, none⟩) t387.length co101)) (fun _ hk => by exact hk.2) (.slice Ao102 t390.length co102)) (fun _ hk => by exact hk.1), by repeat ((with_reducible first | exact HI0.out | refine IsS79.far ?_ NB0_371.out _)), by repeat ((with_reducible first | exact HB.out | refine below_set ?_ GE371.out)), by repeat ((with_reducible first | exact HK.out | refine keep_far ?_ GW371.out _))⟩
   rw [if_pos c41] at H
   have c41b0 : (t395 == 1) = true := beq_iff_eq.mpr c41
   have c41b1 : (t395 != 1) = false := bne_eq_false_iff_eq.mpr c41
   clear c41
   replace H := Option.bind_eq_some_iff.mp H
   obtain ⟨⟨t405, t406, t407⟩, A420, H⟩ := H
   replace H : ((some (([t405, wrap64 (t386 + 1), 64] : List Int) : List Int)).bind fun y408 => ((spec_l01Cur_pick.f s0_0 t406 t407 3).bind fun bt411 => (if 0 ≤ bt411.1 then (if bt411.1 < (y408.length : Int) then (some (rd y408 bt411.1, t387, t390, bt411.2.1, bt411.2.2)) else (none)) else (none)))) = some (r1, r2, r3, r4, r5) := H
   have A42 := Aside0.mk A420
   clear A420
   obtain ⟨y408, hy408⟩ : ∃ y_ : List Int, y_ = (([t405, wrap64 (t386 + 1), 64] : List Int)) := ⟨_, rfl⟩
   replace H : ((spec_l01Cur_pick.f s0_0 t406 t407 3).bind fun bt411 => (if 0 ≤ bt411.1 then (if bt411.1 < (y408.length : Int) then (some (rd y408 bt411.1, t387, t390, bt411.2.1, bt411.2.2)) else (none)) else (none))) = some (r1, r2, r3, r4, r5) := by (have H2_ := (Option.bind_some _ _).symm.trans H; rw [hy408]; with_reducible exact H2_)
   have Ny408 := Aside0.mk hy408
   clear hy408
   replace H := Option.bind_eq_some_iff.mp H
   obtain ⟨⟨t411, t412, t413⟩, A430, H⟩ := H
   replace H : (if 0 ≤ t411 then (if t411 < (y408.length : Int) then (some (rd y408 t411, t387, t390, t412, t413)) else (none)) else (none)) = some (r1, r2, r3, r4, r5) := H
   have A43 := Aside0.mk A430
   clear A430
   by_cases c44 : 0 ≤ t411
   rotate_left
   ·
    rw [if_neg c44] at H
    exact absurd H (by simp)
   rw [if_pos c44] at H
   have c44b0 : decide (0 ≤ t411) = true := decide_eq_true c44
   clear c44
   by_cases c45 : t411 < (y408.length : Int)
   rotate_left
   ·
    rw [if_neg c45] at H
    exact absurd H (by simp)
   rw [if_pos c45] at H
   have c45b0 : decide (t411 < (y408.length : Int)) = true := decide_eq_true c45
   clear c45
   simp only [Option.some.injEq, Prod.mk.injEq] at H
   obtain ⟨rfl, rfl, rfl, rfl, rfl⟩ := H
   obtain ⟨Ao46, co46, eo46⟩ := Kd.R_slice HO_3.out
   subst eo46
   try go_wp2_with (first | ((with_reducible refine gate_callee (f := 18) rfl ?_); refine goesL_ (some 20) rfl rfl Try.func18 (by kernel_rfl) rfl #[.slice Ao46 x3_3.length co46] rfl (by (try simp only [List.map_toArray, List.map_cons, List.map_nil]); rfl) ?_; (with_reducible refine (spec_PlanesOf.calls kj3 _ _ x3_3 t386 t387 t390 t393 _ ?side1 ?side2 A16.out).mono ?_); (case side1 => repeat (exact (Kd.R_reads' HO_3.out).2.2)); (case side2 => exact (Kd.R_reads' HO_3.out).2.1); rintro e w47 ⟨v388, v391, rfl, ho0, ho1, hb⟩; refine ⟨_, rfl, ?_⟩; have n0_ := Aside0.mk (Kd.R_below (by (with_reducible repeat (first | apply Kd.R_alloc | apply Kd.R_drewN | apply Kd.R_drew)); exact HO_3.out) hb); have n1_ := Aside0.mk (Kd.R_lower ho0 (keep_size (w := w) (g := g) (row := none) (by repeat ((with_reducible exact HK.out))))); have n2_ := Aside0.mk (Kd.R_lower ho1 (keep_size (w := w) (g := g) (row := none) (by repeat ((with_reducible exact HK.out))))); have n3_ := Aside0.mk (blk_below (g := gb371) (o := .cells #[.int .i64 0, .slice none 0 0, .slice none 0 0] 37 (0, 0)) (by (with_reducible repeat (first | refine blk_drewN ?_ _ | refine blk_drew ?_ | refine blk_alloc ?_ _)); exact BK371.out) hb); have n4_ := Aside0.mk (IsS79.below (by repeat ((with_reducible exact HI0.out))) hb); have n5_ := Aside0.mk (KeepBut.trans (by repeat ((with_reducible exact HK.out))) (KeepBut.of_below hb g none) (.inl rfl)); have n6_ := Aside0.mk (below_step (by repeat ((with_reducible exact HB.out))) hb); clear HO_3; clear BK371; clear HI0; clear HK; clear HB; have HO_3 := n0_; have HO389 := n1_; have HO392 := n2_; have BK371 := n3_; have HI0 := n4_; have HK := n5_; have HB := n6_; clear n0_ n1_ n2_ n3_ n4_ n5_ n6_; (try clear hb); (try clear hb2); (try clear hk); (try clear hi); (try clear ho0); (try clear ho1)) | ((with_reducible refine gate_dst (N := 4) rfl ?_); refine box_event ?hg (N := 4) ?hd (cs := #[.int .i64 0, .slice none 0 0, .slice none 0 0]) (t := 37) ?hr ?_; (case hd => rfl); (case hg => rfl); (case hr => (go_simp; done)); intro gb394 hg w48 hbox hb; have n0_ := Aside0.mk (Kd.R_below (by (with_reducible repeat (first | apply Kd.R_alloc | apply Kd.R_drewN | apply Kd.R_drew)); exact HO_3.out) hb); have n1_ := Aside0.mk (Kd.R_below (by (with_reducible repeat (first | apply Kd.R_alloc | apply Kd.R_drewN | apply Kd.R_drew)); exact HO389.out) hb); have n2_ := Aside0.mk (Kd.R_below (by (with_reducible repeat (first | apply Kd.R_alloc | apply Kd.R_drewN | apply Kd.R_drew)); exact HO392.out) hb); have n3_ := Aside0.mk (blk_below (g := gb371) (o := .cells #[.int .i64 0, .slice none 0 0, .slice none 0 0] 37 (0, 0)) (by (with_reducible repeat (first | refine blk_drewN ?_ _ | refine blk_drew ?_ | refine blk_alloc ?_ _)); exact BK371.out) hb); have n4_ := Aside0.mk (IsS79.below (by repeat ((with_reducible exact HI0.out))) hb); have n5_ := Aside0.mk (KeepBut.trans (by repeat ((with_reducible exact HK.out))) (KeepBut.of_below hb g none) (.inl rfl)); have n6_ := Aside0.mk (below_step (by repeat ((with_reducible exact HB.out))) hb); have n7_ := Aside0.mk (hbox); have n8_ := Aside0.mk ((by rw [hg]; exact (keep_size (w := w) (g := g) (row := none) (by repeat ((with_reducible exact HK.out)))) : w.heap.size ≤ gb394)); have n9_ := Aside0.mk ((Nat.le_trans HW0.out (by rw [hg]; exact (keep_size (w := w) (g := g) (row := none) (by repeat ((with_reducible exact HK.out)))) : w.heap.size ≤ gb394) : w0.heap.size ≤ gb394)); have n10_ := Aside0.mk ((by rw [hg]; exact Nat.ne_of_lt (blk_lt (g := gb371) (o := .cells #[.int .i64 0, .slice none 0 0, .slice none 0 0] 37 (0, 0)) (by (with_reducible repeat (first | refine blk_drewN ?_ _ | refine blk_drew ?_ | refine blk_alloc ?_ _)); exact BK371.out)) : gb371 ≠ gb394)); have n11_ := Aside0.mk ((by rw [hg]; exact Nat.ne_of_gt (blk_lt (g := gb371) (o := .cells #[.int .i64 0, .slice none 0 0, .slice none 0 0] 37 (0, 0)) (by (with_reducible repeat (first | refine blk_drewN ?_ _ | refine blk_drew ?_ | refine blk_alloc ?_ _)); exact BK371.out)) : gb394 ≠ gb371)); have n12_ := Aside0.mk ((by rw [hg]; exact Nat.ne_of_lt (IsS79.lt (show IsS79 w0 _ g s0_0 x1001_3 x1002_3 from by repeat ((with_reducible exact HI0.out)))) : g ≠ gb394)); have n13_ := Aside0.mk ((by rw [hg]; exact Nat.ne_of_gt (IsS79.lt (show IsS79 w0 _ g s0_0 x1001_3 x1002_3 from by repeat ((with_reducible exact HI0.out)))) : gb394 ≠ g)); clear HO_3; clear HO389; clear HO392; clear BK371; clear HI0; clear HK; clear HB; have HO_3 := n0_; have HO389 := n1_; have HO392 := n2_; have BK371 := n3_; have HI0 := n4_; have HK := n5_; have HB := n6_; have BK394 := n7_; have GW394 := n8_; have GE394 := n9_; have NB371_394 := n10_; have NB394_371 := n11_; have NB0_394 := n12_; have NB394_0 := n13_; clear n0_ n1_ n2_ n3_ n4_ n5_ n6_ n7_ n8_ n9_ n10_ n11_ n12_ n13_; clear hb hbox hg; have hnb49 := NB394_371.out; have hnc49 := NB371_394.out; have hnb50 := NB394_0.out; have hnc50 := NB0_394.out; have hcz51_0 : w48.cell? ⟨gb394, 0, none⟩ = some (.int .i64 0) := b69_ BK394.out 0 rfl; have hcz51_1 : w48.cell? ⟨gb394, 1, none⟩ = some (.slice none 0 0) := b69_ BK394.out 1 rfl; have hcz51_2 : w48.cell? ⟨gb394, 2, none⟩ = some (.slice none 0 0) := b69_ BK394.out 2 rfl; have hfz51_0 := blk_frozen BK394.out 0; have hfz51_1 := blk_frozen BK394.out 1; have hfz51_2 := blk_frozen BK394.out 2; obtain ⟨Ao52, co52, eo52⟩ := Kd.R_slice HO389.out; subst eo52; obtain ⟨Ao53, co53, eo53⟩ := Kd.R_slice HO392.out; subst eo53) | ((with_reducible refine gate_callee (f := 44) rfl ?_); refine goesL_ (some 24) rfl rfl Try.func44 (by kernel_rfl) rfl #[.pointer (some ⟨g, 0, none⟩), .int .i64 12] rfl (by (try simp only [List.map_toArray, List.map_cons, List.map_nil]); rfl) ?_; (with_reducible refine (spec_l01Cur_pick.calls g s0_0 x1001_3 x1002_3 12 t395 t396 t397 w0 _ ?side1 ?side2 A17.out).mono ?_); (case side1 => repeat ((with_reducible first | exact HI0.out | refine IsS79.far ?_ NB0_394.out _))); (case side2 => repeat ((with_reducible first | exact HB.out | refine below_set ?_ GE394.out))); rintro e w54 ⟨rfl, hi, hb, hk⟩; refine ⟨_, rfl, ?_⟩; have n0_ := Aside0.mk (Kd.R_mono (Kd.R_keep (IsS79.apart (show IsS79 w0 _ g s0_0 x1001_3 x1002_3 from by repeat ((with_reducible first | exact HI0.out | refine IsS79.far ?_ NB0_394.out _))) (by (with_reducible repeat (first | apply Kd.R_alloc | apply Kd.R_drewN | apply Kd.R_drew)); exact (Kd.R_mono (Kd.R_far (p := ⟨gb394, 2, none⟩) (Kd.R_far (p := ⟨gb394, 1, none⟩) (Kd.R_far (p := ⟨gb394, 0, none⟩) (Kd.R_types HO_3.out BK394.out (by decide)) (fun _ hk => by exact hk.2) (.int .i64 t386)) (fun _ hk => by exact hk.2) (.slice Ao52 t387.length co52)) (fun _ hk => by exact hk.2) (.slice Ao53 t390.length co53)) (fun _ h_ => h_.1))) (by decide)) hk (fun _ h => h.2)) (fun _ h => h.1)); have n1_ := Aside0.mk (KeepBut.blk hk (g' := gb371) (o := .cells #[.int .i64 0, .slice none 0 0, .slice none 0 0] 37 (0, 0)) (by (with_reducible repeat (first | refine blk_drewN ?_ _ | refine blk_drew ?_ | refine blk_alloc ?_ _)); refine blk_far ?_ NB371_394.out _; (with_reducible repeat (first | refine blk_drewN ?_ _ | refine blk_drew ?_ | refine blk_alloc ?_ _)); refine blk_far ?_ NB371_394.out _; (with_reducible repeat (first | refine blk_drewN ?_ _ | refine blk_drew ?_ | refine blk_alloc ?_ _)); refine blk_far ?_ NB371_394.out _; (with_reducible repeat (first | refine blk_drewN ?_ _ | refine blk_drew ?_ | refine blk_alloc ?_ _)); exact BK371.out) NB371_0.out (by simp)); have n2_ := Aside0.mk (Kd.R_mono (Kd.R_keep (IsS79.apart (show IsS79 w0 _ g s0_0 x1001_3 x1002_3 from by repeat ((with_reducible first | exact HI0.out | refine IsS79.far ?_ NB0_394.out _))) (by (with_reducible repeat (first | apply Kd.R_alloc | apply Kd.R_drewN | apply Kd.R_drew)); exact (Kd.R_mono (Kd.R_far (p := ⟨gb394, 2, none⟩) (Kd.R_far (p := ⟨gb394, 1, none⟩) (Kd.R_far (p := ⟨gb394, 0, none⟩) (Kd.R_types HO389.out BK394.out (by decide)) (fun _ hk => by exact hk.2) (.int .i64 t386)) (fun _ hk => by exact hk.2) (.slice Ao52 t387.length co52)) (fun _ hk => by exact hk.2) (.slice Ao53 t390.length co53)) (fun _ h_ => h_.1))) (by decide)) hk (fun _ h => h.2)) (fun _ h => h.1)); have n3_ := Aside0.mk (Kd.R_mono (Kd.R_keep (IsS79.apart (show IsS79 w0 _ g s0_0 x1001_3 x1002_3 from by repeat ((with_reducible first | exact HI0.out | refine IsS79.far ?_ NB0_394.out _))) (by (with_reducible repeat (first | apply Kd.R_alloc | apply Kd.R_drewN | apply Kd.R_drew)); exact (Kd.R_mono (Kd.R_far (p := ⟨gb394, 2, none⟩) (Kd.R_far (p := ⟨gb394, 1, none⟩) (Kd.R_far (p := ⟨gb394, 0, none⟩) (Kd.R_types HO392.out BK394.out (by decide)) (fun _ hk => by exact hk.2) (.int .i64 t386)) (fun _ hk => by exact hk.2) (.slice Ao52 t387.length co52)) (fun _ hk => by exact hk.2) (.slice Ao53 t390.length co53)) (fun _ h_ => h_.1))) (by decide)) hk (fun _ h => h.2)) (fun _ h => h.1)); have n4_ := Aside0.mk (KeepBut.blk hk (g' := gb394) (o := .cells #[.int .i64 t386, .slice Ao52 t387.length co52, .slice Ao53 t390.length co53] 37 (0, 0)) (by (with_reducible repeat (first | refine blk_drewN ?_ _ | refine blk_drew ?_ | refine blk_alloc ?_ _)); refine blk_put (cs := #[.int .i64 t386, .slice Ao52 t387.length co52, .slice none 0 0]) ?_ 2 _ rfl; (with_reducible repeat (first | refine blk_drewN ?_ _ | refine blk_drew ?_ | refine blk_alloc ?_ _)); refine blk_put (cs := #[.int .i64 t386, .slice none 0 0, .slice none 0 0]) ?_ 1 _ rfl; (with_reducible repeat (first | refine blk_drewN ?_ _ | refine blk_drew ?_ | refine blk_alloc ?_ _)); refine blk_put (cs := #[.int .i64 0, .slice none 0 0, .slice none 0 0]) ?_ 0 _ rfl; (with_reducible repeat (first | refine blk_drewN ?_ _ | refine blk_drew ?_ | refine blk_alloc ?_ _)); exact BK394.out) NB394_0.out (by simp)); have n5_ := Aside0.mk (KeepBut.trans (by repeat ((with_reducible first | exact HK.out | refine keep_far ?_ GW394.out _))) hk (.inl rfl)); have n6_ := Aside0.mk (hb); have n7_ := Aside0.mk (hi); clear HO_3; clear BK371; clear HO389; clear HO392; clear BK394; clear HK; clear HB; clear HI0; have HO_3 := n0_; have BK371 := n1_; have HO389 := n2_; have HO392 := n3_; have BK394 := n4_; have HK := n5_; have HB := n6_; have HI0 := n7_; clear n0_ n1_ n2_ n3_ n4_ n5_ n6_ n7_; (try clear hb); (try clear hb2); (try clear hk); (try clear hi)))
   have pi414 : (0 ≤ (t411 : Int)) = True := eq_true (of_decide_eq_true (by (with_reducible assumption)))
   have qi414 : (t411 < (y408.length : Int)) = True := eq_true (of_decide_eq_true (by (with_reducible assumption)))
   replace HO_3 := Aside0.mk (Kd.R_drew HO_3.out)
   replace HO389 := Aside0.mk (Kd.R_drew HO389.out)
   replace HO392 := Aside0.mk (Kd.R_drew HO392.out)
   replace BK371 := Aside0.mk (blk_drew BK371.out)
   replace BK394 := Aside0.mk (blk_drew BK394.out)
   replace HI0 := Aside0.mk (IsS79.drew HI0.out)
   replace HK := Aside0.mk (keep_drew HK.out)
   replace HB := Aside0.mk (below_drew1 HB.out)
   refine start_ (n := 12) (S := fun w' => w'.cell? ⟨gb394, 0, none⟩ = some (.int .i64 t386) ∧ w'.cell? ⟨gb394, 1, none⟩ = some (.slice Ao52 t387.length co52) ∧ w'.cell? ⟨gb394, 2, none⟩ = some (.slice Ao53 t390.length co53)) (ds := [11]) #[false, false, false, false, false, false, false, false, false, false, false, false] (by kernel_rfl) rfl rfl ⟨b69_ BK394.out 0 rfl, b69_ BK394.out 1 rfl, b69_ BK394.out 2 rfl⟩ (fun hHeld => ?_); refine with_tabW spec_l01Cur_planes.tab10 spec_l01Cur_planes.bits10 (fun HT_ HW_ => ?_)
   generalize w54.drew = w55 at HO_3 HO389 HO392 BK371 BK394 HI0 HK HB hHeld ⊢
   refine pure_ (i := 0) (N := some 36) (v := ?_) (a' := ?_) #[true, false, false, false, false, false, false, false, false, false, false, false] rfl rfl (any_of HT_.out (by kernel_rfl)) (fun _ _ _ h => h) (Or.inl ⟨by rfl, ?_⟩) ?_ ?_
   rotate_left
   ·
    intro w'
    go_simp
    with_reducible rfl
   rotate_left
   ·
    simp only [Act.put, List.setIfInBounds_toArray, List.set_cons_zero, List.set_cons_succ, i64_w, i32_w]
    rfl
   refine pure_ (i := 2) (N := some 38) (v := ?_) (a' := ?_) #[true, false, true, false, false, false, false, false, false, false, false, false] rfl rfl (any_of HT_.out (by kernel_rfl)) (fun _ _ _ h => h) (Or.inl ⟨by rfl, ?_⟩) ?_ ?_
   rotate_left
   ·
    intro w'
    go_simp
    with_reducible rfl
   rotate_left
   ·
    simp only [Act.put, List.setIfInBounds_toArray, List.set_cons_zero, List.set_cons_succ, i64_w, i32_w]
    rfl
   refine pure_ (i := 6) (N := some 42) (v := ?_) (a' := ?_) #[true, false, true, false, false, false, true, false, false, false, false, false] rfl rfl (any_of HT_.out (by kernel_rfl)) (fun _ _ _ h => h) (Or.inl ⟨by rfl, ?_⟩) ?_ ?_
   rotate_left
   ·
    intro w'
    go_simp
    with_reducible rfl
   rotate_left
   ·
    simp only [Act.put, List.setIfInBounds_toArray, List.set_cons_zero, List.set_cons_succ, i64_w, i32_w]
    rfl
   refine take_ (i := 3) (N := some 39) (v := ?_) (a' := ?_) #[true, false, true, true, false, false, true, false, false, false, false, false] rfl rfl (take_ofW HT_.out HW_.out (by kernel_rfl)) (fun _ _ _ h => h) (Or.inl ⟨by rfl, ?_⟩) hHeld ?_ ?_
   rotate_left
   ·
    rintro w' ⟨s0, s1, s2⟩
    go_simp
    with_reducible rfl
   rotate_left
   ·
    simp only [Act.put, List.setIfInBounds_toArray, List.set_cons_zero, List.set_cons_succ, i64_w, i32_w]
    rfl
   refine pure_ (i := 4) (N := some 40) (v := ?_) (a' := ?_) #[true, false, true, true, true, false, true, false, false, false, false, false] rfl rfl (any_of HT_.out (by kernel_rfl)) (fun _ _ _ h => h) (Or.inl ⟨by rfl, ?_⟩) ?_ ?_
   rotate_left
   ·
    intro w'
    go_simp
    with_reducible rfl
   rotate_left
   ·
    simp only [Act.put, List.setIfInBounds_toArray, List.set_cons_zero, List.set_cons_succ, i64_w, i32_w]
    rfl
   refine one_ (i := 1) (N := some 37) #[true, true, true, true, true, false, true, false, false, false, false, false] rfl rfl (one_of HT_.out (by kernel_rfl)) (by decide) (fun K hK => ?_)
   refine goes_ Try.func48 (by kernel_rfl) rfl #[.pointer (some ⟨g, 0, none⟩)] (by rfl) rfl rfl (by (try simp only [List.map_toArray, List.map_cons, List.map_nil]); rfl) ?_
   with_reducible refine (spec_l01Cur_raw.calls g s0_0 t396 t397 t405 t406 t407 w0 _ ?side1 ?side2 A42.out).mono ?_
   (case side1 => repeat ((with_reducible exact HI0.out)))
   (case side2 => repeat ((with_reducible exact HB.out)))
   rintro e w56 ⟨rfl, hi, hb, hk⟩
   refine ⟨_, rfl, ?_⟩
   replace HO_3 := Aside0.mk (Kd.R_mono (Kd.R_keep (IsS79.apart (show IsS79 w0 _ g s0_0 t396 t397 from by repeat ((with_reducible exact HI0.out))) (by (with_reducible repeat (first | apply Kd.R_alloc | apply Kd.R_drewN | apply Kd.R_drew)); exact HO_3.out) (by decide)) hk (fun _ h => h.2)) (fun _ h => h.1))
   replace BK371 := Aside0.mk (KeepBut.blk hk (g' := gb371) (o := .cells #[.int .i64 0, .slice none 0 0, .slice none 0 0] 37 (0, 0)) BK371.out NB371_0.out (by simp))
   replace HO389 := Aside0.mk (Kd.R_mono (Kd.R_keep (IsS79.apart (show IsS79 w0 _ g s0_0 t396 t397 from by repeat ((with_reducible exact HI0.out))) (by (with_reducible repeat (first | apply Kd.R_alloc | apply Kd.R_drewN | apply Kd.R_drew)); exact HO389.out) (by decide)) hk (fun _ h => h.2)) (fun _ h => h.1))
   replace HO392 := Aside0.mk (Kd.R_mono (Kd.R_keep (IsS79.apart (show IsS79 w0 _ g s0_0 t396 t397 from by repeat ((with_reducible exact HI0.out))) (by (with_reducible repeat (first | apply Kd.R_alloc | apply Kd.R_drewN | apply Kd.R_drew)); exact HO392.out) (by decide)) hk (fun _ h => h.2)) (fun _ h => h.1))
   replace BK394 := Aside0.mk (KeepBut.blk hk (g' := gb394) (o := .cells #[.int .i64 t386, .slice Ao52 t387.length co52, .slice Ao53 t390.length co53] 37 (0, 0)) BK394.out NB394_0.out (by simp))
   replace HK := Aside0.mk (KeepBut.trans (by repeat ((with_reducible exact HK.out))) hk (.inl rfl))
   replace HB := Aside0.mk (hb)
   replace HI0 := Aside0.mk (hi)
   (try clear hb)
   (try clear hb2)
   (try clear hk)
   (try clear hi)
   refine hK.out _ _ ⟨b69_ BK394.out 0 rfl, b69_ BK394.out 1 rfl, b69_ BK394.out 2 rfl⟩ (fun hHeld => ?_)
   clear hK K
   refine norm_ (a' := ?_) ?_ ?_
   rotate_left
   ·
    show Act.put _ (some 37) _ = _
    simp only [Act.put, List.setIfInBounds_toArray, List.set_cons_zero, List.set_cons_succ, i64_w, i32_w]
    rfl
   refine join_ (σ := Value × Addr) 4 #[true, true, true, true, true, true, true, true, false, false, false, false] (fun s_ => [(41, s_.1), (43, .int .i64 t411)]) (fun s_ w' => (w'.cell? ⟨gb394, 0, none⟩ = some (.int .i64 t386) ∧ w'.cell? ⟨gb394, 1, none⟩ = some (.slice Ao52 t387.length co52) ∧ w'.cell? ⟨gb394, 2, none⟩ = some (.slice Ao53 t390.length co53)) ∧ (Kd.R (Kd.int .u64) 30 w' w.heap.size (fun k_ => some k_ ≠ (.slice Ao53 t390.length co53 : Value).ownBlock) (.slice Ao52 t387.length co52) t387) ∧ (Kd.R (Kd.int .u64) 30 w' w.heap.size (fun k_ => some k_ ≠ (.slice Ao52 t387.length co52 : Value).ownBlock) (.slice Ao53 t390.length co53) t390) ∧ (Kd.R (Kd.int .i64) 3 w' w.heap.size (fun _ => True) s_.1 y408) ∧ (Kd.R Kd.string 9 w' w.heap.size (fun _ => True) (.slice Ao46 x3_3.length co46) x3_3) ∧ (∃ c_, (s_.1 : Value) = .slice (some s_.2) y408.length c_) ∧ (w'.heap[gb371]? = some (.cells #[.int .i64 0, .slice none 0 0, .slice none 0 0] 37 (0, 0))) ∧ (w'.heap[gb394]? = some (.cells #[.int .i64 t386, .slice Ao52 t387.length co52, .slice Ao53 t390.length co53] 37 (0, 0))) ∧ (IsS79 w0 w' g s0_0 t412 t413) ∧ (KeepBut w w' g none) ∧ (Below w0.heap.size w0 w')) ?_ ?_
   rotate_left
   ·
    intro hCont
    refine two_ (i := 5) (j := 7) (Ni := some 41) (Nj := some 43) #[true, true, true, true, true, true, true, false, false, false, false, false] #[true, true, true, true, true, false, true, true, false, false, false, false] rfl rfl rfl rfl (two_of HT_.out (by kernel_rfl)) (by decide) (by decide) (fun K hK => ?_) (fun K hK => ?_)
    ·
     skip
     refine Kd.R_lit_step (Kd.int .i64) _ 3 ?hg (N := 41) ?hd (xs := ([t405, wrap64 (t386 + 1), 64] : List Int)) (inner := [.int .i64 t405, .int .i64 (wrap64 (t386 + 1)), .int .i64 64]) (ok := fun _ => True) (okp := fun _ => True) ?hr ?hp (fun _ hk => hk) trivial (Below.refl _ _) (Nat.le_refl _) (by simp) ?_; (case hd => rfl); (case hg => rfl); (case hr => (go_simp; done)); (case hp => exact (Reps.one (show Kd.M (Kd.int .i64) _ _ _ t405 [.int .i64 t405] from rfl) (Reps.one (show Kd.M (Kd.int .i64) _ _ _ (wrap64 (t386 + 1)) [.int .i64 (wrap64 (t386 + 1))] from rfl) (Reps.one (show Kd.M (Kd.int .i64) _ _ _ 64 [.int .i64 64] from rfl) (Reps.none _ _)))))
     intro v409 w57 ho58 hb hg_ hnew_
     clear hg_ hnew_
     (rw [← Ny408.out] at ho58)
     have HO410 := Aside0.mk (Kd.R_lower ho58 (keep_size (w := w) (g := g) (row := none) (by repeat ((with_reducible exact HK.out)))))
     replace HO_3 := Aside0.mk (Kd.R_below (by (with_reducible repeat (first | apply Kd.R_alloc | apply Kd.R_drewN | apply Kd.R_drew)); exact HO_3.out) hb)
     replace HO389 := Aside0.mk (Kd.R_below (by (with_reducible repeat (first | apply Kd.R_alloc | apply Kd.R_drewN | apply Kd.R_drew)); exact HO389.out) hb)
     replace HO392 := Aside0.mk (Kd.R_below (by (with_reducible repeat (first | apply Kd.R_alloc | apply Kd.R_drewN | apply Kd.R_drew)); exact HO392.out) hb)
     replace BK371 := Aside0.mk (blk_below BK371.out hb)
     replace HI0 := Aside0.mk (IsS79.below (by repeat ((with_reducible exact HI0.out))) hb)
     replace BK394 := Aside0.mk (blk_below BK394.out hb)
     replace HK := Aside0.mk (KeepBut.trans (by repeat ((with_reducible exact HK.out))) (KeepBut.of_below hb g none) (.inl rfl))
     replace HB := Aside0.mk (below_step HB.out hb)
     clear hb ho58
     obtain ⟨Ao59, co59, eo59⟩ := Kd.R_slice HO410.out
     subst eo59
     obtain ⟨ado59, fo59, _⟩ := Kd.at_int (Kd.R_reads' HO410.out).2.2 0 (by decide) (by rw [Ny408.out]; simp)
     cases fo59
     refine hK.out _ _ ⟨b69_ BK394.out 0 rfl, b69_ BK394.out 1 rfl, b69_ BK394.out 2 rfl⟩ (fun hHeld => ?_)
     clear hK K
     refine norm_ (a' := ?_) ?_ ?_
     rotate_left
     ·
      show Act.put _ (some 41) _ = _
      simp only [Act.put, List.setIfInBounds_toArray, List.set_cons_zero, List.set_cons_succ, i64_w, i32_w]
      rfl
     refine one_ (i := 7) (N := some 43) #[true, true, true, true, true, true, true, true, false, false, false, false] rfl rfl (one_of HT_.out (by kernel_rfl)) (by decide) (fun K hK => ?_)
     refine goes_ Try.func44 (by kernel_rfl) rfl #[.pointer (some ⟨g, 0, none⟩), .int .i64 3] (by rfl) rfl rfl (by (try simp only [List.map_toArray, List.map_cons, List.map_nil]); rfl) ?_
     with_reducible refine (spec_l01Cur_pick.calls g s0_0 t406 t407 3 t411 t412 t413 w0 _ ?side1 ?side2 A43.out).mono ?_
     (case side1 => repeat ((with_reducible exact HI0.out)))
     (case side2 => repeat ((with_reducible exact HB.out)))
     rintro e w60 ⟨rfl, hi, hb, hk⟩
     refine ⟨_, rfl, ?_⟩
     replace HO_3 := Aside0.mk (Kd.R_mono (Kd.R_keep (IsS79.apart (show IsS79 w0 _ g s0_0 t406 t407 from by repeat ((with_reducible exact HI0.out))) (by (with_reducible repeat (first | apply Kd.R_alloc | apply Kd.R_drewN | apply Kd.R_drew)); exact HO_3.out) (by decide)) hk (fun _ h => h.2)) (fun _ h => h.1))
     replace BK371 := Aside0.mk (KeepBut.blk hk (g' := gb371) (o := .cells #[.int .i64 0, .slice none 0 0, .slice none 0 0] 37 (0, 0)) BK371.out NB371_0.out (by simp))
     replace HO389 := Aside0.mk (Kd.R_mono (Kd.R_keep (IsS79.apart (show IsS79 w0 _ g s0_0 t406 t407 from by repeat ((with_reducible exact HI0.out))) (by (with_reducible repeat (first | apply Kd.R_alloc | apply Kd.R_drewN | apply Kd.R_drew)); exact HO389.out) (by decide)) hk (fun _ h => h.2)) (fun _ h => h.1))
     replace HO392 := Aside0.mk (Kd.R_mono (Kd.R_keep (IsS79.apart (show IsS79 w0 _ g s0_0 t406 t407 from by repeat ((with_reducible exact HI0.out))) (by (with_reducible repeat (first | apply Kd.R_alloc | apply Kd.R_drewN | apply Kd.R_drew)); exact HO392.out) (by decide)) hk (fun _ h => h.2)) (fun _ h => h.1))
     replace BK394 := Aside0.mk (KeepBut.blk hk (g' := gb394) (o := .cells #[.int .i64 t386, .slice Ao52 t387.length co52, .slice Ao53 t390.length co53] 37 (0, 0)) BK394.out NB394_0.out (by simp))
     replace HO410 := Aside0.mk (Kd.R_mono (Kd.R_keep (IsS79.apart (show IsS79 w0 _ g s0_0 t406 t407 from by repeat ((with_reducible exact HI0.out))) (by (with_reducible repeat (first | apply Kd.R_alloc | apply Kd.R_drewN | apply Kd.R_drew)); exact HO410.out) (by decide)) hk (fun _ h => h.2)) (fun _ h => h.1))
     replace HK := Aside0.mk (KeepBut.trans (by repeat ((with_reducible exact HK.out))) hk (.inl rfl))
     replace HB := Aside0.mk (hb)
     replace HI0 := Aside0.mk (hi)
     (try clear hb)
     (try clear hb2)
     (try clear hk)
     (try clear hi)
     refine hK.out _ _ ⟨b69_ BK394.out 0 rfl, b69_ BK394.out 1 rfl, b69_ BK394.out 2 rfl⟩ (fun hHeld => ?_)
     clear hK K
     refine norm_ (a' := ?_) ?_ ?_
     rotate_left
     ·
      show Act.put _ (some 43) _ = _
      simp only [Act.put, List.setIfInBounds_toArray, List.set_cons_zero, List.set_cons_succ, i64_w, i32_w]
      rfl
     exact norm_ (by simp only [putAll, Act.put, List.setIfInBounds_toArray, List.set_cons_zero, List.set_cons_succ]) (hCont (.slice (some ado59) y408.length co59, ado59) _ ⟨hHeld, (by (with_reducible repeat (first | apply Kd.R_alloc | apply Kd.R_drewN | apply Kd.R_drew)); exact HO389.out), (by (with_reducible repeat (first | apply Kd.R_alloc | apply Kd.R_drewN | apply Kd.R_drew)); exact HO392.out), (by (with_reducible repeat (first | apply Kd.R_alloc | apply Kd.R_drewN | apply Kd.R_drew)); exact HO410.out), (by (with_reducible repeat (first | apply Kd.R_alloc | apply Kd.R_drewN | apply Kd.R_drew)); exact HO_3.out), ⟨_, rfl⟩, BK371.out, BK394.out, (by repeat ((with_reducible exact HI0.out))), (by repeat ((with_reducible exact HK.out))), HB.out⟩)
    skip
    refine goes_ Try.func44 (by kernel_rfl) rfl #[.pointer (some ⟨g, 0, none⟩), .int .i64 3] (by rfl) rfl rfl (by (try simp only [List.map_toArray, List.map_cons, List.map_nil]); rfl) ?_
    with_reducible refine (spec_l01Cur_pick.calls g s0_0 t406 t407 3 t411 t412 t413 w0 _ ?side1 ?side2 A43.out).mono ?_
    (case side1 => repeat ((with_reducible exact HI0.out)))
    (case side2 => repeat ((with_reducible exact HB.out)))
    rintro e w57 ⟨rfl, hi, hb, hk⟩
    refine ⟨_, rfl, ?_⟩
    replace HO_3 := Aside0.mk (Kd.R_mono (Kd.R_keep (IsS79.apart (show IsS79 w0 _ g s0_0 t406 t407 from by repeat ((with_reducible exact HI0.out))) (by (with_reducible repeat (first | apply Kd.R_alloc | apply Kd.R_drewN | apply Kd.R_drew)); exact HO_3.out) (by decide)) hk (fun _ h => h.2)) (fun _ h => h.1))
    replace BK371 := Aside0.mk (KeepBut.blk hk (g' := gb371) (o := .cells #[.int .i64 0, .slice none 0 0, .slice none 0 0] 37 (0, 0)) BK371.out NB371_0.out (by simp))
    replace HO389 := Aside0.mk (Kd.R_mono (Kd.R_keep (IsS79.apart (show IsS79 w0 _ g s0_0 t406 t407 from by repeat ((with_reducible exact HI0.out))) (by (with_reducible repeat (first | apply Kd.R_alloc | apply Kd.R_drewN | apply Kd.R_drew)); exact HO389.out) (by decide)) hk (fun _ h => h.2)) (fun _ h => h.1))
    replace HO392 := Aside0.mk (Kd.R_mono (Kd.R_keep (IsS79.apart (show IsS79 w0 _ g s0_0 t406 t407 from by repeat ((with_reducible exact HI0.out))) (by (with_reducible repeat (first | apply Kd.R_alloc | apply Kd.R_drewN | apply Kd.R_drew)); exact HO392.out) (by decide)) hk (fun _ h => h.2)) (fun _ h => h.1))
    replace BK394 := Aside0.mk (KeepBut.blk hk (g' := gb394) (o := .cells #[.int .i64 t386, .slice Ao52 t387.length co52, .slice Ao53 t390.length co53] 37 (0, 0)) BK394.out NB394_0.out (by simp))
    replace HK := Aside0.mk (KeepBut.trans (by repeat ((with_reducible exact HK.out))) hk (.inl rfl))
    replace HB := Aside0.mk (hb)
    replace HI0 := Aside0.mk (hi)
    (try clear hb)
    (try clear hb2)
    (try clear hk)
    (try clear hi)
    refine hK.out _ _ ⟨b69_ BK394.out 0 rfl, b69_ BK394.out 1 rfl, b69_ BK394.out 2 rfl⟩ (fun hHeld => ?_)
    clear hK K
    refine norm_ (a' := ?_) ?_ ?_
    rotate_left
    ·
     show Act.put _ (some 43) _ = _
     simp only [Act.put, List.setIfInBounds_toArray, List.set_cons_zero, List.set_cons_succ, i64_w, i32_w]
     rfl
    refine one_ (i := 5) (N := some 41) #[true, true, true, true, true, true, true, true, false, false, false, false] rfl rfl (one_of HT_.out (by kernel_rfl)) (by decide) (fun K hK => ?_)
    refine Kd.R_lit_step (Kd.int .i64) _ 3 ?hg (N := 41) ?hd (xs := ([t405, wrap64 (t386 + 1), 64] : List Int)) (inner := [.int .i64 t405, .int .i64 (wrap64 (t386 + 1)), .int .i64 64]) (ok := fun _ => True) (okp := fun _ => True) ?hr ?hp (fun _ hk => hk) trivial (Below.refl _ _) (Nat.le_refl _) (by simp) ?_; (case hd => rfl); (case hg => rfl); (case hr => (go_simp; done)); (case hp => exact (Reps.one (show Kd.M (Kd.int .i64) _ _ _ t405 [.int .i64 t405] from rfl) (Reps.one (show Kd.M (Kd.int .i64) _ _ _ (wrap64 (t386 + 1)) [.int .i64 (wrap64 (t386 + 1))] from rfl) (Reps.one (show Kd.M (Kd.int .i64) _ _ _ 64 [.int .i64 64] from rfl) (Reps.none _ _)))))
    intro v409 w58 ho59 hb hg_ hnew_
    clear hg_ hnew_
    (rw [← Ny408.out] at ho59)
    have HO410 := Aside0.mk (Kd.R_lower ho59 (keep_size (w := w) (g := g) (row := none) (by repeat ((with_reducible exact HK.out)))))
    replace HO_3 := Aside0.mk (Kd.R_below (by (with_reducible repeat (first | apply Kd.R_alloc | apply Kd.R_drewN | apply Kd.R_drew)); exact HO_3.out) hb)
    replace HO389 := Aside0.mk (Kd.R_below (by (with_reducible repeat (first | apply Kd.R_alloc | apply Kd.R_drewN | apply Kd.R_drew)); exact HO389.out) hb)
    replace HO392 := Aside0.mk (Kd.R_below (by (with_reducible repeat (first | apply Kd.R_alloc | apply Kd.R_drewN | apply Kd.R_drew)); exact HO392.out) hb)
    replace BK371 := Aside0.mk (blk_below BK371.out hb)
    replace HI0 := Aside0.mk (IsS79.below (by repeat ((with_reducible exact HI0.out))) hb)
    replace BK394 := Aside0.mk (blk_below BK394.out hb)
    replace HK := Aside0.mk (KeepBut.trans (by repeat ((with_reducible exact HK.out))) (KeepBut.of_below hb g none) (.inl rfl))
    replace HB := Aside0.mk (below_step HB.out hb)
    clear hb ho59
    obtain ⟨Ao60, co60, eo60⟩ := Kd.R_slice HO410.out
    subst eo60
    obtain ⟨ado60, fo60, _⟩ := Kd.at_int (Kd.R_reads' HO410.out).2.2 0 (by decide) (by rw [Ny408.out]; simp)
    cases fo60
    refine hK.out _ _ ⟨b69_ BK394.out 0 rfl, b69_ BK394.out 1 rfl, b69_ BK394.out 2 rfl⟩ (fun hHeld => ?_)
    clear hK K
    refine norm_ (a' := ?_) ?_ ?_
    rotate_left
    ·
     show Act.put _ (some 41) _ = _
     simp only [Act.put, List.setIfInBounds_toArray, List.set_cons_zero, List.set_cons_succ, i64_w, i32_w]
     rfl
    exact norm_ (by simp only [putAll, Act.put, List.setIfInBounds_toArray, List.set_cons_zero, List.set_cons_succ]) (hCont (.slice (some ado60) y408.length co60, ado60) _ ⟨hHeld, (by (with_reducible repeat (first | apply Kd.R_alloc | apply Kd.R_drewN | apply Kd.R_drew)); exact HO389.out), (by (with_reducible repeat (first | apply Kd.R_alloc | apply Kd.R_drewN | apply Kd.R_drew)); exact HO392.out), (by (with_reducible repeat (first | apply Kd.R_alloc | apply Kd.R_drewN | apply Kd.R_drew)); exact HO410.out), (by (with_reducible repeat (first | apply Kd.R_alloc | apply Kd.R_drewN | apply Kd.R_drew)); exact HO_3.out), ⟨_, rfl⟩, BK371.out, BK394.out, (by repeat ((with_reducible exact HI0.out))), (by repeat ((with_reducible exact HK.out))), HB.out⟩)
   rintro ⟨v409, adz_v409⟩ w61 ⟨hS_, h0_, h1_, h2_, h3_, h4_, h5_, h6_, h7_, h8_, h9_⟩
   (try dsimp only at h0_)
   (try dsimp only at h1_)
   (try dsimp only at h2_)
   (try dsimp only at h3_)
   (try dsimp only at h4_)
   (try dsimp only at h5_)
   (try dsimp only at h6_)
   (try dsimp only at h7_)
   (try dsimp only at h8_)
   (try dsimp only at h9_)
   have HO410 := Aside0.mk h2_
   have HA_HO410 := Aside0.mk h4_
   replace HO389 := Aside0.mk h0_
   replace HO392 := Aside0.mk h1_
   replace HO_3 := Aside0.mk h3_
   replace BK371 := Aside0.mk h5_
   replace BK394 := Aside0.mk h6_
   replace HI0 := Aside0.mk h7_
   replace HK := Aside0.mk h8_
   replace HB := Aside0.mk h9_
   clear h0_ h1_ h2_ h3_ h4_ h5_ h6_ h7_ h8_ h9_
   have hHeld : w61.cell? ⟨gb394, 0, none⟩ = some (.int .i64 t386) ∧ w61.cell? ⟨gb394, 1, none⟩ = some (.slice Ao52 t387.length co52) ∧ w61.cell? ⟨gb394, 2, none⟩ = some (.slice Ao53 t390.length co53) := hS_
   obtain ⟨co62, eo62⟩ := HA_HO410.out
   clear HA_HO410
   subst eo62
   refine norm_ (a' := ?_) ?_ ?_
   rotate_left
   ·
    simp only [putAll, Act.put, List.setIfInBounds_toArray, List.set_cons_zero, List.set_cons_succ]
    rfl
   refine pure_ (i := 8) (N := some 44) (v := ?_) (a' := ?_) #[true, true, true, true, true, true, true, true, true, false, false, false] rfl rfl (any_of HT_.out (by kernel_rfl)) (fun _ _ _ h => h) (Or.inl ⟨by rfl, ?_⟩) ?_ ?_
   rotate_left
   ·
    intro w'
    go_simp
    with_reducible rfl
   rotate_left
   ·
    simp only [Act.put, List.setIfInBounds_toArray, List.set_cons_zero, List.set_cons_succ, i64_w, i32_w]
    rfl
   refine one_ (i := 9) (N := some 45) #[true, true, true, true, true, true, true, true, true, true, false, false] rfl rfl (one_of HT_.out (by kernel_rfl)) (by decide) (fun K hK => ?_)
   (have p414 : 0 ≤ (t411 : Int) := of_decide_eq_true (by (with_reducible assumption)); have q414 : t411 < (y408.length : Int) := of_decide_eq_true (by (with_reducible assumption)); obtain ⟨ad414, e414, hx414_0⟩ := Kd.at_int (Kd.R_reads' HO410.out).2.2 t411 p414 q414; obtain rfl : adz_v409 = ad414 := (by injection e414))
   refine value_ (w1 := ?_) (v := ?_) (by rfl) rfl ?_ ?_
   rotate_left 2
   ·
    go_simp
    constructor
    ·
     rfl
    rfl
   clear hx414_0
   refine hK.out _ _ ⟨b69_ BK394.out 0 rfl, b69_ BK394.out 1 rfl, b69_ BK394.out 2 rfl⟩ (fun hHeld => ?_)
   clear hK K
   refine norm_ (a' := ?_) ?_ ?_
   rotate_left
   ·
    show Act.put _ (some 45) _ = _
    simp only [Act.put, List.setIfInBounds_toArray, List.set_cons_zero, List.set_cons_succ, i64_w, i32_w]
    rfl
   refine pure_ (i := 10) (N := some 46) (v := ?_) (a' := ?_) #[true, true, true, true, true, true, true, true, true, true, true, false] rfl rfl (any_of HT_.out (by kernel_rfl)) (fun _ _ _ h => h) (Or.inl ⟨by rfl, ?_⟩) ?_ ?_
   rotate_left
   ·
    intro w'
    go_simp
    with_reducible rfl
   rotate_left
   ·
    simp only [Act.put, List.setIfInBounds_toArray, List.set_cons_zero, List.set_cons_succ, i64_w, i32_w]
    rfl
   refine last_ (i := 11) (N := none) #[true, true, true, true, true, true, true, true, true, true, true, true] rfl rfl (one_of HT_.out (by kernel_rfl)) (by decide) (fun K hK => ?_)
   have hs63 : w61.cell? ⟨gb394, 0, none⟩ = some (.int .i64 t386) := b69_ BK394.out 0 rfl
   have hfs63 := blk_frozen BK394.out 0
   have hns63_0 := NB371_394.out
   have hms63_0 := NB394_371.out
   refine skip_ (w1 := ?_) (by rfl) rfl ?_ ?_
   rotate_left
   ·
    go_simp
    rfl
   refine hK.out _ _ ?_
   clear hK K
   refine done_ (done_of HT_.out (by kernel_rfl)) ?_
   have hcz64_0 : w61.cell? ⟨gb394, 0, none⟩ = some (.int .i64 t386) := b69_ BK394.out 0 rfl
   have hcz64_1 : w61.cell? ⟨gb394, 1, none⟩ = some (.slice Ao52 t387.length co52) := b69_ BK394.out 1 rfl
   have hcz64_2 : w61.cell? ⟨gb394, 2, none⟩ = some (.slice Ao53 t390.length co53) := b69_ BK394.out 2 rfl
   have hfz64_0 := blk_frozen BK394.out 0
   have hfz64_1 := blk_frozen BK394.out 1
   have hfz64_2 := blk_frozen BK394.out 2
   have hnb65 := NB371_0.out
   have hnc65 := NB0_371.out
   have hcz66_0 : w61.cell? ⟨gb371, 0, none⟩ = some (.int .i64 0) := b69_ BK371.out 0 rfl
   have hcz66_1 : w61.cell? ⟨gb371, 1, none⟩ = some (.slice none 0 0) := b69_ BK371.out 1 rfl
   have hcz66_2 : w61.cell? ⟨gb371, 2, none⟩ = some (.slice none 0 0) := b69_ BK371.out 2 rfl
   have hfz66_0 := blk_frozen BK371.out 0
   have hfz66_1 := blk_frozen BK371.out 1
   have hfz66_2 := blk_frozen BK371.out 2
   try go_wp2
   refine bodyPost_ret (results_cell_row rfl _ _ gb371 37 #[.int .i64 (rd y408 t411), .slice Ao52 t387.length co52, .slice Ao53 t390.length co53] (0, 0) _ rfl (by (with_reducible repeat (first | refine blk_drewN ?_ _ | refine blk_drew ?_ | refine blk_alloc ?_ _)); refine blk_put (cs := #[.int .i64 (rd y408 t411), .slice Ao52 t387.length co52, .slice none 0 0]) ?_ 2 _ rfl; (with_reducible repeat (first | refine blk_drewN ?_ _ | refine blk_drew ?_ | refine blk_alloc ?_ _)); refine blk_put (cs := #[.int .i64 (rd y408 t411), .slice none 0 0, .slice none 0 0]) ?_ 1 _ rfl; (with_reducible repeat (first | refine blk_drewN ?_ _ | refine blk_drew ?_ | refine blk_alloc ?_ _)); refine blk_put (cs := #[.int .i64 0, .slice none 0 0, .slice none 0 0]) ?_ 0 _ rfl; (with_reducible repeat (first | refine blk_drewN ?_ _ | refine blk_drew ?_ | refine blk_alloc ?_ _)); refine blk_far ?_ NB371_394.out _; (with_reducible repeat (first | refine blk_drewN ?_ _ | refine blk_drew ?_ | refine blk_alloc ?_ _)); exact BK371.out) Try.underlying37 rfl (by kernel_rfl)) rfl ?_
   exact ⟨_, _, by rfl, Kd.Q_of_R (by (with_reducible repeat (first | apply Kd.R_alloc | apply Kd.R_drewN | apply Kd.R_drew)); exact Kd.R_mono (Kd.R_far (p := ⟨gb371, 2, none⟩) (Kd.R_far (p := ⟨gb371, 1, none⟩) (Kd.R_far (p := ⟨gb371, 0, none⟩) (Kd.R_far (p := ⟨gb394, 0, none⟩) (Kd.R_types (Kd.R_types HO389.out BK394.out (by decide)) BK371.out (by decide)) (fun _ hk => by exact hk.1.2) (.int .i64 (rd y408 t411))) (fun _ hk => by exact hk.2) (.int .i64 (rd y408 t411))) (fun _ hk => by exact hk.2) (.slice Ao52 t387.length co52)) (fun _ hk => by exact hk.2) (.slice Ao53 t390.length co53)) (fun _ hk => by exact hk.1.1)), by (with_reducible repeat (first | apply Kd.R_alloc | apply Kd.R_drewN | apply Kd.R_drew)); exact Kd.R_mono (Kd.R_far (p := ⟨gb371, 2, none⟩) (Kd.R_far (p := ⟨gb371, 1, none⟩) (Kd.R_far (p := ⟨gb371, 0, none⟩) (Kd.R_far (p := ⟨gb394, 0, none⟩) (Kd.R_types (Kd.R_types HO392.out BK394.out (by decide)) BK371.out (by decide)) (fun _ hk => by exact hk.1.2) (.int .i64 (rd y408 t411))) (fun _ hk => by exact hk.2) (.int .i64 (rd y408 t411))) (fun _ hk => by exact hk.2) (.slice Ao52 t387.length co52)) (fun _ hk => by exact hk.2) (.slice Ao53 t390.length co53)) (fun _ hk => by exact hk.1.1), by repeat ((with_reducible first | exact HI0.out | refine IsS79.far ?_ NB0_371.out _ | refine IsS79.far ?_ NB0_394.out _)), by repeat ((with_reducible first | exact HB.out | refine below_set ?_ GE371.out | refine below_set ?_ GE394.out)), by repeat ((with_reducible first | exact HK.out | refine keep_far ?_ GW371.out _ | refine keep_far ?_ GW394.out _))⟩

end Go.Proofs.Ytljmhhadclgegaa.PFnBatch

-- Laid by a program of this session: what the print of the kit writes, and contracts of the session where the print takes no function. Lean checks it.
import Derived.Test.YtggfndobfpmoaaaPFnEvictedx0
import Derived.Test.YtggfndobfpmoaaaPFnEvictedx1
import Derived.Test.YtggfndobfpmoaaaPFnEvictedx2
namespace Go.Proofs.Ytggfndobfpmoaaa.PFnEvicted
open Go.RowKit Go.Proofs.YtggfndobfpmoaaaW.PrintWords Go.Proofs.YtggfndobfpmoaaaW.PrintLast Go.Proofs.YtggfndobfpmoaaaW.PrintMore
attribute [local go_sem] max2_int min2_int max_two min_two max_three min_three max_four min_four   -- for this text's walks alone
set_option linter.unusedVariables false
set_option linter.unusedSimpArgs false

/-! ### spec_l01Cur_block: function 84 -/
def spec_l01Cur_block.l0 : Nat → Int → List Int → Int → Int → Int → Int → List Int → Option (Int × Int × List Int × Int × Int)
  | 0, _, _, _, _, _, _, _ => none
  | k + 1, x3, x1000, x1001, x1002, x201000, x201001, x201002 => if (x201002.length : Int) < x3 then ((spec_l01Cur_pick.f x1000 x1001 x1002 256).bind fun bt201 => (if x201002.length < 140737488355328 then (spec_l01Cur_block.l0 k x3 x1000 bt201.2.1 bt201.2.2 x201000 x201001 (x201002 ++ [(bt201.1) % 256])) else (none))) else (some (x201000, x201001, x201002, x1001, x1002))
def spec_l01Cur_block.f (k : Nat) (s0_0 : List Int) (s0_1 : Int) (s0_2 : Int) (a1 : Int) (a2 : Int) (a3 : Int) : Option (Int × Int × List Int × Int × Int) := (spec_l02Pow.f k a2).bind fun t196 => ((spec_l01Cur_pick.f s0_0 s0_1 s0_2 t196).bind fun bt197 => (spec_l01Cur_block.l0 k a3 s0_0 bt197.2.1 bt197.2.2 a1 bt197.1 ([] : List Int)))
theorem spec_l01Cur_block.mono_l : ∀ k, (∀ y0 y1 y2 y3 y4 y5 y6, LeO (spec_l01Cur_block.l0 k y0 y1 y2 y3 y4 y5 y6) (spec_l01Cur_block.l0 (k + 1) y0 y1 y2 y3 y4 y5 y6))
  | 0 => fun _ _ _ _ _ _ _ r h => by simp [spec_l01Cur_block.l0] at h
  | k + 1 => by
    have ih0 := spec_l01Cur_block.mono_l k
    · intro y0 y1 y2 y3 y4 y5 y6
      unfold spec_l01Cur_block.l0
      repeat' first | (with_reducible exact ih0 _ _ _ _ _ _ _) | (with_reducible exact LeO.refl _) | (with_reducible refine LeO.ite ?_ ?_) | (with_reducible refine LeO.bind ?_ (fun _ => ?_))
theorem spec_l01Cur_block.mono : ∀ a0 a1 a2 a3 a4 a5 k, LeO (spec_l01Cur_block.f k a0 a1 a2 a3 a4 a5) (spec_l01Cur_block.f (k + 1) a0 a1 a2 a3 a4 a5) := by
  intro a0 a1 a2 a3 a4 a5 k
  have ih0 := spec_l01Cur_block.mono_l k
  unfold spec_l01Cur_block.f
  repeat' first | (with_reducible exact ih0 _ _ _ _ _ _ _) | (with_reducible exact spec_l02Pow.mono _ _) | (with_reducible exact LeO.refl _) | (with_reducible refine LeO.bind ?_ (fun _ => ?_))
def spec_l01Cur_block.T3 : Bool × List (List Nat × List Nat) := (true, [([], []), ([0], [0]), ([], []), ([2], [2]), ([3], [3]), ([4], [4]), ([1, 5, 3], [1, 5]), ([0, 1, 2, 3, 4, 5, 6], []), ([7, 6, 6, 0, 1, 2, 3, 4, 5, 6], [6, 7])])
def spec_l01Cur_block.B3 : List Nat := [0, 1, 0, 4, 12, 28, 63, 127, 255]
theorem spec_l01Cur_block.tab3 : rtab .any (opsOf Try.f84 3) = spec_l01Cur_block.T3 := by kernel_rfl
theorem spec_l01Cur_block.bits3 : waitsOk spec_l01Cur_block.T3.2 spec_l01Cur_block.B3 = true := by kernel_rfl
theorem b84_ {w : World} {g : Nat} {t : TypeId} {cs : Array Value} {v : Value} (h : w.heap[g]? = some (.cells cs t (0, 0))) (i : Nat) (hv : cs[i]? = some v) : w.cell? ⟨g, i, none⟩ = some v := (blk_cell h i).trans hv
set_option maxHeartbeats 8000000 in
set_option maxRecDepth 100000 in
theorem spec_l01Cur_block.calls (k : Nat) (g : Nat) (s0_0 : List Int) (s0_1 : Int) (s0_2 : Int) (a1 : Int) (a2 : Int) (a3 : Int) (r1 : Int) (r2 : Int) (r3 : List Int) (r4 : Int) (r5 : Int) (w0 w : World) (hI : IsS92 w0 w g s0_0 s0_1 s0_2) (hB : Below w0.heap.size w0 w) (h : spec_l01Cur_block.f k s0_0 s0_1 s0_2 a1 a2 a3 = some (r1, r2, r3, r4, r5)) :
    Calls Try.prog 84 #[.pointer (some ⟨g, 0, none⟩), .int .i64 a1, .int .i64 a2, .int .i64 a3] w fun e w' => ∃ v2_ : Value, e = .returned (.agg #[.int .i64 r1, .int .i64 r2, v2_]) ∧ Kd.R (Kd.int .u8) 5 w' w.heap.size (fun _ => True) v2_ r3 ∧ IsS92 w0 w' g s0_0 r4 r5 ∧ Below w0.heap.size w0 w' ∧ KeepBut w w' g none := by
 have hu26 := Try.underlying26
 have HI0 := Aside0.mk hI
 have HK := Aside0.mk (KeepBut.refl w g none)
 have HL := Aside0.mk hB.size
 clear hI
 have HW0 := Aside0.mk hB.size
 have HB := Aside0.mk hB
 clear hB
 have H : ((spec_l02Pow.f k a2).bind fun t196 => ((spec_l01Cur_pick.f s0_0 s0_1 s0_2 t196).bind fun bt197 => (spec_l01Cur_block.l0 k a3 s0_0 bt197.2.1 bt197.2.2 a1 bt197.1 ([] : List Int)))) = some (r1, r2, r3, r4, r5) := h
 clear h
 replace H := Option.bind_eq_some_iff.mp H
 obtain ⟨t196, A50, H⟩ := H
 replace H : ((spec_l01Cur_pick.f s0_0 s0_1 s0_2 t196).bind fun bt197 => (spec_l01Cur_block.l0 k a3 s0_0 bt197.2.1 bt197.2.2 a1 bt197.1 ([] : List Int))) = some (r1, r2, r3, r4, r5) := H
 have A5 := Aside0.mk A50
 clear A50
 replace H := Option.bind_eq_some_iff.mp H
 obtain ⟨⟨t197, t198, t199⟩, A60, H⟩ := H
 replace H : (spec_l01Cur_block.l0 k a3 s0_0 t198 t199 a1 t197 ([] : List Int)) = some (r1, r2, r3, r4, r5) := H
 have A6 := Aside0.mk A60
 clear A60
 have H' := Aside0.mk H
 clear H
 go_enter Try.func84, Try.ntmps84
 go_wp2_with (first | ((with_reducible refine gate_dst (N := 8) rfl ?_); refine box_event ?hg (N := 8) ?hd (cs := #[.int .i64 0, .int .i64 0, .slice none 0 0]) (t := 26) ?hr ?_; (case hd => rfl); (case hg => rfl); (case hr => (go_simp; done)); intro gb195 hg w7 hbox hb; have n0_ := Aside0.mk (IsS92.below (by repeat ((with_reducible exact HI0.out))) hb); have n1_ := Aside0.mk (KeepBut.trans (by repeat ((with_reducible exact HK.out))) (KeepBut.of_below hb g none) (.inl rfl)); have n2_ := Aside0.mk (below_step (by repeat ((with_reducible exact HB.out))) hb); have n3_ := Aside0.mk (hbox); have n4_ := Aside0.mk ((by rw [hg]; exact (keep_size (w := w) (g := g) (row := none) (by repeat ((with_reducible exact HK.out)))) : w.heap.size ≤ gb195)); have n5_ := Aside0.mk ((Nat.le_trans HW0.out (by rw [hg]; exact (keep_size (w := w) (g := g) (row := none) (by repeat ((with_reducible exact HK.out)))) : w.heap.size ≤ gb195) : w0.heap.size ≤ gb195)); have n6_ := Aside0.mk ((by rw [hg]; exact Nat.ne_of_lt (IsS92.lt (show IsS92 w0 _ g s0_0 s0_1 s0_2 from by repeat ((with_reducible exact HI0.out)))) : g ≠ gb195)); have n7_ := Aside0.mk ((by rw [hg]; exact Nat.ne_of_gt (IsS92.lt (show IsS92 w0 _ g s0_0 s0_1 s0_2 from by repeat ((with_reducible exact HI0.out)))) : gb195 ≠ g)); clear HI0; clear HK; clear HB; have HI0 := n0_; have HK := n1_; have HB := n2_; have BK195 := n3_; have GW195 := n4_; have GE195 := n5_; have NB0_195 := n6_; have NB195_0 := n7_; clear n0_ n1_ n2_ n3_ n4_ n5_ n6_ n7_; clear hb hbox hg) | ((with_reducible refine gate_callee (f := 74) rfl ?_); refine goesL_ (some 13) rfl rfl Try.func74 (by kernel_rfl) rfl #[.int .i64 a2] rfl (by (try simp only [List.map_toArray, List.map_cons, List.map_nil]); rfl) ?_; (with_reducible refine (spec_l02Pow.calls k a2 t196 _ A5.out).mono ?_); rintro e w' ⟨rfl, ⟨nd, rfl⟩⟩; refine ⟨_, rfl, ?_⟩; (try (rw [drewN_self w7]; generalize hq_ : World.drewN w7 _ = w7; have n0_ : Aside0 (w7.heap[gb195]? = some (.cells #[.int .i64 0, .int .i64 0, .slice none 0 0] 26 (0, 0))) := ⟨by rw [← hq_]; exact (by (with_reducible repeat (refine blk_drewN ?_ _)); exact BK195.out)⟩; have n1_ : Aside0 (IsS92 w0 w7 g s0_0 s0_1 s0_2) := ⟨by rw [← hq_]; exact (by repeat ((with_reducible first | exact HI0.out | apply IsS92.drewN)))⟩; have n2_ : Aside0 (KeepBut w w7 g none) := ⟨by rw [← hq_]; exact (by repeat ((with_reducible first | exact HK.out | apply keep_drewN)))⟩; have n3_ : Aside0 (Below w0.heap.size w0 w7) := ⟨by rw [← hq_]; exact (by repeat ((with_reducible first | exact HB.out | apply pw_below_drewN)))⟩; clear BK195 HI0 HK HB hq_; have BK195 := n0_; have HI0 := n1_; have HK := n2_; have HB := n3_; clear n0_ n1_ n2_ n3_))) | ((with_reducible refine gate_callee (f := 82) rfl ?_); refine goesL_ (some 14) rfl rfl Try.func82 (by kernel_rfl) rfl #[.pointer (some ⟨g, 0, none⟩), .int .i64 t196] rfl (by (try simp only [List.map_toArray, List.map_cons, List.map_nil]); rfl) ?_; (with_reducible refine (spec_l01Cur_pick.calls g s0_0 s0_1 s0_2 t196 t197 t198 t199 w0 _ ?side1 ?side2 A6.out).mono ?_); (case side1 => repeat ((with_reducible exact HI0.out))); (case side2 => repeat ((with_reducible exact HB.out))); rintro e w8 ⟨rfl, hi, hb, hk⟩; refine ⟨_, rfl, ?_⟩; have n0_ := Aside0.mk (KeepBut.blk hk (g' := gb195) (o := .cells #[.int .i64 0, .int .i64 0, .slice none 0 0] 26 (0, 0)) (by (with_reducible repeat (first | refine blk_drewN ?_ _ | refine blk_drew ?_ | refine blk_alloc ?_ _)); exact BK195.out) NB195_0.out (by simp)); have n1_ := Aside0.mk (KeepBut.trans (by repeat ((with_reducible exact HK.out))) hk (.inl rfl)); have n2_ := Aside0.mk (hb); have n3_ := Aside0.mk (hi); clear BK195; clear HK; clear HB; clear HI0; have BK195 := n0_; have HK := n1_; have HB := n2_; have HI0 := n3_; clear n0_ n1_ n2_ n3_; (try clear hb); (try clear hb2); (try clear hk); (try clear hi)) | ((with_reducible refine gate_dst (N := 9) rfl ?_); refine box_event ?hg (N := 9) ?hd (cs := #[.int .i64 0, .int .i64 0, .slice none 0 0]) (t := 26) ?hr ?_; (case hd => rfl); (case hg => rfl); (case hr => (go_simp; done)); intro gb200 hg w9 hbox hb; have n0_ := Aside0.mk (IsS92.below (by repeat ((with_reducible exact HI0.out))) hb); have n1_ := Aside0.mk (blk_below (g := gb195) (o := .cells #[.int .i64 0, .int .i64 0, .slice none 0 0] 26 (0, 0)) (by (with_reducible repeat (first | refine blk_drewN ?_ _ | refine blk_drew ?_ | refine blk_alloc ?_ _)); exact BK195.out) hb); have n2_ := Aside0.mk (KeepBut.trans (by repeat ((with_reducible exact HK.out))) (KeepBut.of_below hb g none) (.inl rfl)); have n3_ := Aside0.mk (below_step (by repeat ((with_reducible exact HB.out))) hb); have n4_ := Aside0.mk (hbox); have n5_ := Aside0.mk ((by rw [hg]; exact (keep_size (w := w) (g := g) (row := none) (by repeat ((with_reducible exact HK.out)))) : w.heap.size ≤ gb200)); have n6_ := Aside0.mk ((Nat.le_trans HW0.out (by rw [hg]; exact (keep_size (w := w) (g := g) (row := none) (by repeat ((with_reducible exact HK.out)))) : w.heap.size ≤ gb200) : w0.heap.size ≤ gb200)); have n7_ := Aside0.mk ((by rw [hg]; exact Nat.ne_of_lt (blk_lt (g := gb195) (o := .cells #[.int .i64 0, .int .i64 0, .slice none 0 0] 26 (0, 0)) (by (with_reducible repeat (first | refine blk_drewN ?_ _ | refine blk_drew ?_ | refine blk_alloc ?_ _)); exact BK195.out)) : gb195 ≠ gb200)); have n8_ := Aside0.mk ((by rw [hg]; exact Nat.ne_of_gt (blk_lt (g := gb195) (o := .cells #[.int .i64 0, .int .i64 0, .slice none 0 0] 26 (0, 0)) (by (with_reducible repeat (first | refine blk_drewN ?_ _ | refine blk_drew ?_ | refine blk_alloc ?_ _)); exact BK195.out)) : gb200 ≠ gb195)); have n9_ := Aside0.mk ((by rw [hg]; exact Nat.ne_of_lt (IsS92.lt (show IsS92 w0 _ g s0_0 t198 t199 from by repeat ((with_reducible exact HI0.out)))) : g ≠ gb200)); have n10_ := Aside0.mk ((by rw [hg]; exact Nat.ne_of_gt (IsS92.lt (show IsS92 w0 _ g s0_0 t198 t199 from by repeat ((with_reducible exact HI0.out)))) : gb200 ≠ g)); clear HI0; clear BK195; clear HK; clear HB; have HI0 := n0_; have BK195 := n1_; have HK := n2_; have HB := n3_; have BK200 := n4_; have GW200 := n5_; have GE200 := n6_; have NB195_200 := n7_; have NB200_195 := n8_; have NB0_200 := n9_; have NB200_0 := n10_; clear n0_ n1_ n2_ n3_ n4_ n5_ n6_ n7_ n8_ n9_ n10_; clear hb hbox hg; have hnb10 := NB200_195.out; have hnc10 := NB195_200.out; have hnb11 := NB200_0.out; have hnc11 := NB0_200.out; have hcz12_0 : w9.cell? ⟨gb200, 0, none⟩ = some (.int .i64 0) := b84_ BK200.out 0 rfl; have hcz12_1 : w9.cell? ⟨gb200, 1, none⟩ = some (.int .i64 0) := b84_ BK200.out 1 rfl; have hcz12_2 : w9.cell? ⟨gb200, 2, none⟩ = some (.slice none 0 0) := b84_ BK200.out 2 rfl; have hfz12_0 := blk_frozen BK200.out 0; have hfz12_1 := blk_frozen BK200.out 1; have hfz12_2 := blk_frozen BK200.out 2))
 go_loopg [] k (fun kq w' => ∃ (x1001_1 : Int) (x1002_1 : Int) (x201002_1 : List Int) (u201002 : Value), Aside0 (spec_l01Cur_block.l0 kq a3 s0_0 x1001_1 x1002_1 a1 t197 x201002_1 = some (r1, r2, r3, r4, r5)) ∧ Aside0 (kq ≤ k) ∧ Aside0 (Kd.R (Kd.int .u8) 5 w' w.heap.size (fun _ => True) u201002 x201002_1) ∧ Aside0 (w'.heap[gb195]? = some (.cells #[.int .i64 0, .int .i64 0, (.slice none 0 0)] 26 (0, 0))) ∧ Aside0 (w'.heap[gb200]? = some (.cells #[.int .i64 a1, .int .i64 t197, u201002] 26 (0, 0))) ∧ Aside0 (IsS92 w0 w' g s0_0 x1001_1 x1002_1) ∧ Aside0 (KeepBut w w' g none) ∧ Aside0 (Below w0.heap.size w0 w'))
 case atStart => exact ⟨(t198), (t199), (([] : List Int)), (.slice none 0 0), H', ⟨Nat.le_refl _⟩, ⟨by exact Kd.R_nil _ _ _ _ _⟩, ⟨by (with_reducible repeat (first | refine blk_drewN ?_ _ | refine blk_drew ?_ | refine blk_alloc ?_ _)); refine blk_far ?_ NB195_200.out _; (with_reducible repeat (first | refine blk_drewN ?_ _ | refine blk_drew ?_ | refine blk_alloc ?_ _)); refine blk_far ?_ NB195_200.out _; (with_reducible repeat (first | refine blk_drewN ?_ _ | refine blk_drew ?_ | refine blk_alloc ?_ _)); refine blk_far ?_ NB195_200.out _; (with_reducible repeat (first | refine blk_drewN ?_ _ | refine blk_drew ?_ | refine blk_alloc ?_ _)); exact BK195.out⟩, ⟨by (with_reducible repeat (first | refine blk_drewN ?_ _ | refine blk_drew ?_ | refine blk_alloc ?_ _)); refine blk_put (cs := #[.int .i64 a1, .int .i64 t197, .slice none 0 0]) ?_ 2 _ rfl; (with_reducible repeat (first | refine blk_drewN ?_ _ | refine blk_drew ?_ | refine blk_alloc ?_ _)); refine blk_put (cs := #[.int .i64 a1, .int .i64 0, .slice none 0 0]) ?_ 1 _ rfl; (with_reducible repeat (first | refine blk_drewN ?_ _ | refine blk_drew ?_ | refine blk_alloc ?_ _)); refine blk_put (cs := #[.int .i64 0, .int .i64 0, .slice none 0 0]) ?_ 0 _ rfl; (with_reducible repeat (first | refine blk_drewN ?_ _ | refine blk_drew ?_ | refine blk_alloc ?_ _)); exact BK200.out⟩, ⟨by repeat ((with_reducible first | exact HI0.out | refine IsS92.far ?_ NB0_200.out _))⟩, ⟨by repeat ((with_reducible first | exact HK.out | refine keep_far ?_ GW200.out _))⟩, ⟨by repeat ((with_reducible first | exact HB.out | refine below_set ?_ GE200.out))⟩⟩
 case round =>
  clear H'
  try clear c1
  try clear p2
  try clear c7
  try clear c8
  try clear c10
  try clear c11
  try clear hcz12_0
  try clear hcz12_1
  try clear hcz12_2
  try clear hfz12_0
  try clear hfz12_1
  try clear hfz12_2
  obtain ⟨x1001_1, x1002_1, x201002_1, u201002, HA, HK1, HO_201002, BK195, BK200, HI0, HK, HB⟩ := hrel
  cases gk with
  | zero => exact absurd HA.out (by simp [spec_l01Cur_block.l0])
  | succ k1 =>
   have H := HA.out
   clear HA
   simp only [spec_l01Cur_block.l0] at H
   by_cases c13 : (x201002_1.length : Int) < a3
   rotate_left
   ·
    rw [if_neg c13] at H
    have c13b0 : decide ((x201002_1.length : Int) < a3) = false := decide_eq_false c13
    clear c13
    simp only [Option.some.injEq, Prod.mk.injEq] at H
    obtain ⟨rfl, rfl, rfl, rfl, rfl⟩ := H
    have hnb25 := NB200_195.out
    have hnc25 := NB195_200.out
    have hnb26 := NB200_0.out
    have hnc26 := NB0_200.out
    have hcz27_0 : wr.cell? ⟨gb200, 0, none⟩ = some (.int .i64 a1) := b84_ BK200.out 0 rfl
    have hcz27_1 : wr.cell? ⟨gb200, 1, none⟩ = some (.int .i64 t197) := b84_ BK200.out 1 rfl
    have hcz27_2 : wr.cell? ⟨gb200, 2, none⟩ = some (u201002) := b84_ BK200.out 2 rfl
    have hfz27_0 := blk_frozen BK200.out 0
    have hfz27_1 := blk_frozen BK200.out 1
    have hfz27_2 := blk_frozen BK200.out 2
    obtain ⟨Ao28, co28, eo28⟩ := Kd.R_slice HO_201002.out
    subst eo28
    have hnb29 := NB195_0.out
    have hnc29 := NB0_195.out
    have hcz30_0 : wr.cell? ⟨gb195, 0, none⟩ = some (.int .i64 0) := b84_ BK195.out 0 rfl
    have hcz30_1 : wr.cell? ⟨gb195, 1, none⟩ = some (.int .i64 0) := b84_ BK195.out 1 rfl
    have hcz30_2 : wr.cell? ⟨gb195, 2, none⟩ = some (.slice none 0 0) := b84_ BK195.out 2 rfl
    have hfz30_0 := blk_frozen BK195.out 0
    have hfz30_1 := blk_frozen BK195.out 1
    have hfz30_2 := blk_frozen BK195.out 2
    go_wp2
    refine bodyPost_ret (results_cell_row rfl _ _ gb195 26 #[.int .i64 a1, .int .i64 t197, .slice Ao28 x201002_1.length co28] (0, 0) _ rfl (by (with_reducible repeat (first | refine blk_drewN ?_ _ | refine blk_drew ?_ | refine blk_alloc ?_ _)); refine blk_put (cs := #[.int .i64 a1, .int .i64 t197, .slice none 0 0]) ?_ 2 _ rfl; (with_reducible repeat (first | refine blk_drewN ?_ _ | refine blk_drew ?_ | refine blk_alloc ?_ _)); refine blk_put (cs := #[.int .i64 a1, .int .i64 0, .slice none 0 0]) ?_ 1 _ rfl; (with_reducible repeat (first | refine blk_drewN ?_ _ | refine blk_drew ?_ | refine blk_alloc ?_ _)); refine blk_put (cs := #[.int .i64 0, .int .i64 0, .slice none 0 0]) ?_ 0 _ rfl; (with_reducible repeat (first | refine blk_drewN ?_ _ | refine blk_drew ?_ | refine blk_alloc ?_ _)); exact BK195.out) Try.underlying26 rfl (by kernel_rfl)) rfl ?_
    exact ⟨_, by rfl, by (with_reducible repeat (first | apply Kd.R_alloc | apply Kd.R_drewN | apply Kd.R_drew)); exact Kd.R_mono (Kd.R_far (p := ⟨gb195, 2, none⟩) (Kd.R_far (p := ⟨gb195, 1, none⟩) (Kd.R_far (p := ⟨gb195, 0, none⟩) (Kd.R_types HO_201002.out BK195.out (by decide)) (fun _ hk => by exact hk.2) (.int .i64 a1)) (fun _ hk => by exact hk.2) (.int .i64 t197)) (fun _ hk => by exact hk.2) (.slice Ao28 x201002_1.length co28)) (fun _ hk => trivial), by repeat ((with_reducible first | exact HI0.out | refine IsS92.far ?_ NB0_195.out _)), by repeat ((with_reducible first | exact HB.out | refine below_set ?_ GE195.out)), by repeat ((with_reducible first | exact HK.out | refine keep_far ?_ GW195.out _))⟩
   rw [if_pos c13] at H
   have c13b0 : decide ((x201002_1.length : Int) < a3) = true := decide_eq_true c13
   clear c13
   replace H := Option.bind_eq_some_iff.mp H
   obtain ⟨⟨t201, t202, t203⟩, A140, H⟩ := H
   replace H : (if x201002_1.length < 140737488355328 then (spec_l01Cur_block.l0 k1 a3 s0_0 t202 t203 a1 t197 (x201002_1 ++ [(t201) % 256])) else (none)) = some (r1, r2, r3, r4, r5) := H
   have A14 := Aside0.mk A140
   clear A140
   by_cases c15 : x201002_1.length < 140737488355328
   rotate_left
   ·
    rw [if_neg c15] at H
    exact absurd H (by simp)
   rw [if_pos c15] at H
   have LMc15 := Aside0.mk c15
   clear c15
   obtain ⟨y204, hy204⟩ : ∃ y_ : List Int, y_ = (x201002_1 ++ [(t201) % 256]) := ⟨_, rfl⟩
   replace H : (spec_l01Cur_block.l0 k1 a3 s0_0 t202 t203 a1 t197 y204) = some (r1, r2, r3, r4, r5) := by (rw [hy204]; with_reducible exact H)
   have Ny204 := Aside0.mk hy204
   clear hy204
   have H' := Aside0.mk H
   clear H
   have hnb16 := NB200_195.out
   have hnc16 := NB195_200.out
   have hnb17 := NB200_0.out
   have hnc17 := NB0_200.out
   have hcz18_0 : wr.cell? ⟨gb200, 0, none⟩ = some (.int .i64 a1) := b84_ BK200.out 0 rfl
   have hcz18_1 : wr.cell? ⟨gb200, 1, none⟩ = some (.int .i64 t197) := b84_ BK200.out 1 rfl
   have hcz18_2 : wr.cell? ⟨gb200, 2, none⟩ = some (u201002) := b84_ BK200.out 2 rfl
   have hfz18_0 := blk_frozen BK200.out 0
   have hfz18_1 := blk_frozen BK200.out 1
   have hfz18_2 := blk_frozen BK200.out 2
   obtain ⟨Ao19, co19, eo19⟩ := Kd.R_slice HO_201002.out
   subst eo19
   try go_wp2
   replace HO_201002 := Aside0.mk (Kd.R_drew HO_201002.out)
   replace BK195 := Aside0.mk (blk_drew BK195.out)
   replace BK200 := Aside0.mk (blk_drew BK200.out)
   replace HI0 := Aside0.mk (IsS92.drew HI0.out)
   replace HK := Aside0.mk (keep_drew HK.out)
   replace HB := Aside0.mk (below_drew1 HB.out)
   refine start_ (n := 9) (S := fun w' => w'.cell? ⟨gb200, 0, none⟩ = some (.int .i64 a1) ∧ w'.cell? ⟨gb200, 1, none⟩ = some (.int .i64 t197) ∧ w'.cell? ⟨gb200, 2, none⟩ = some (.slice Ao19 x201002_1.length co19)) (ds := [8]) #[false, false, false, false, false, false, false, false, false] (by kernel_rfl) rfl rfl ⟨b84_ BK200.out 0 rfl, b84_ BK200.out 1 rfl, b84_ BK200.out 2 rfl⟩ (fun hHeld => ?_); refine with_tabW spec_l01Cur_block.tab3 spec_l01Cur_block.bits3 (fun HT_ HW_ => ?_)
   generalize wr.drew = w20 at HO_201002 BK195 BK200 HI0 HK HB hHeld ⊢
   refine pure_ (i := 0) (N := some 21) (v := ?_) (a' := ?_) #[true, false, false, false, false, false, false, false, false] rfl rfl (any_of HT_.out (by kernel_rfl)) (fun _ _ _ h => h) (Or.inl ⟨by rfl, ?_⟩) ?_ ?_
   rotate_left
   ·
    intro w'
    go_simp
    with_reducible rfl
   rotate_left
   ·
    simp only [Act.put, List.setIfInBounds_toArray, List.set_cons_zero, List.set_cons_succ, i64_w, i32_w]
    rfl
   refine pure_ (i := 2) (N := some 23) (v := ?_) (a' := ?_) #[true, false, true, false, false, false, false, false, false] rfl rfl (any_of HT_.out (by kernel_rfl)) (fun _ _ _ h => h) (Or.inl ⟨by rfl, ?_⟩) ?_ ?_
   rotate_left
   ·
    intro w'
    go_simp
    with_reducible rfl
   rotate_left
   ·
    simp only [Act.put, List.setIfInBounds_toArray, List.set_cons_zero, List.set_cons_succ, i64_w, i32_w]
    rfl
   refine take_ (i := 1) (N := some 22) (v := ?_) (a' := ?_) #[true, true, true, false, false, false, false, false, false] rfl rfl (take_ofW HT_.out HW_.out (by kernel_rfl)) (fun _ _ _ h => h) (Or.inl ⟨by rfl, ?_⟩) hHeld ?_ ?_
   rotate_left
   ·
    rintro w' ⟨s0, s1, s2⟩
    go_simp
    with_reducible rfl
   rotate_left
   ·
    simp only [Act.put, List.setIfInBounds_toArray, List.set_cons_zero, List.set_cons_succ, i64_w, i32_w]
    rfl
   refine one_ (i := 3) (N := some 24) #[true, true, true, true, false, false, false, false, false] rfl rfl (one_of HT_.out (by kernel_rfl)) (by decide) (fun K hK => ?_)
   refine goes_ Try.func82 (by kernel_rfl) rfl #[.pointer (some ⟨g, 0, none⟩), .int .i64 256] (by rfl) rfl rfl (by (try simp only [List.map_toArray, List.map_cons, List.map_nil]); rfl) ?_
   with_reducible refine (spec_l01Cur_pick.calls g s0_0 x1001_1 x1002_1 256 t201 t202 t203 w0 _ ?side1 ?side2 A14.out).mono ?_
   (case side1 => repeat ((with_reducible exact HI0.out)))
   (case side2 => repeat ((with_reducible exact HB.out)))
   rintro e w21 ⟨rfl, hi, hb, hk⟩
   refine ⟨_, rfl, ?_⟩
   replace HO_201002 := Aside0.mk (Kd.R_mono (Kd.R_keep (IsS92.apart (show IsS92 w0 _ g s0_0 x1001_1 x1002_1 from by repeat ((with_reducible exact HI0.out))) (by (with_reducible repeat (first | apply Kd.R_alloc | apply Kd.R_drewN | apply Kd.R_drew)); exact HO_201002.out) (by decide)) hk (fun _ h => h.2)) (fun _ h => h.1))
   replace BK195 := Aside0.mk (KeepBut.blk hk (g' := gb195) (o := .cells #[.int .i64 0, .int .i64 0, .slice none 0 0] 26 (0, 0)) BK195.out NB195_0.out (by simp))
   replace BK200 := Aside0.mk (KeepBut.blk hk (g' := gb200) (o := .cells #[.int .i64 a1, .int .i64 t197, .slice Ao19 x201002_1.length co19] 26 (0, 0)) BK200.out NB200_0.out (by simp))
   replace HK := Aside0.mk (KeepBut.trans (by repeat ((with_reducible exact HK.out))) hk (.inl rfl))
   replace HB := Aside0.mk (hb)
   replace HI0 := Aside0.mk (hi)
   (try clear hb)
   (try clear hb2)
   (try clear hk)
   (try clear hi)
   refine hK.out _ _ ⟨b84_ BK200.out 0 rfl, b84_ BK200.out 1 rfl, b84_ BK200.out 2 rfl⟩ (fun hHeld => ?_)
   clear hK K
   refine norm_ (a' := ?_) ?_ ?_
   rotate_left
   ·
    show Act.put _ (some 24) _ = _
    simp only [Act.put, List.setIfInBounds_toArray, List.set_cons_zero, List.set_cons_succ, i64_w, i32_w]
    rfl
   refine pure_ (i := 4) (N := some 25) (v := ?_) (a' := ?_) #[true, true, true, true, true, false, false, false, false] rfl rfl (any_of HT_.out (by kernel_rfl)) (fun _ _ _ h => h) (Or.inl ⟨by rfl, ?_⟩) ?_ ?_
   rotate_left
   ·
    intro w'
    go_simp
    with_reducible rfl
   rotate_left
   ·
    simp only [Act.put, List.setIfInBounds_toArray, List.set_cons_zero, List.set_cons_succ, i64_w, i32_w]
    rfl
   refine one_ (i := 5) (N := some 26) #[true, true, true, true, true, true, false, false, false] rfl rfl (one_of HT_.out (by kernel_rfl)) (by decide) (fun K hK => ?_)
   refine value_ (w1 := ?_) (v := ?_) (by rfl) rfl ?_ ?_
   rotate_left 2
   ·
    go_simp
    constructor
    ·
     rfl
    rfl
   refine hK.out _ _ ⟨(blk_cell (blk_alloc BK200.out _) 0).trans rfl, (blk_cell (blk_alloc BK200.out _) 1).trans rfl, (blk_cell (blk_alloc BK200.out _) 2).trans rfl⟩ (fun hHeld => ?_)
   clear hK K
   refine norm_ (a' := ?_) ?_ ?_
   rotate_left
   ·
    show Act.put _ (some 26) _ = _
    simp only [Act.put, List.setIfInBounds_toArray, List.set_cons_zero, List.set_cons_succ, i64_w, i32_w]
    rfl
   refine one_ (i := 6) (N := some 27) #[true, true, true, true, true, true, true, false, false] rfl rfl (one_of HT_.out (by kernel_rfl)) (by decide) (fun K hK => ?_)
   refine Kd.R_append_step (Kd.int .u8) w.heap.size (by rfl) (.tmp 22) (.tmp 26) 24 5 (.int .u8 0) 1 rfl Try.underlying24 info5 rfl (by decide) (by omega) (.slice Ao19 x201002_1.length co19) x201002_1 ((t201) % 256) [.int .u8 ((t201) % 256)] (fun _ => True) (fun _ => False) rfl rfl ?aP (fun _ hk => hk.elim) ?aF ?aO (Below.refl _ _) ?aS ?aL ?_
   (case aP => exact rfl)
   (case aF => exact (fun _ _ => trivial))
   (case aO => exact (by (with_reducible repeat (first | apply Kd.R_alloc | apply Kd.R_drewN | apply Kd.R_drew)); exact HO_201002.out))
   (case aS => exact (keep_size (w := w) (g := g) (row := none) (by repeat ((with_reducible exact HK.out)))))
   (case aL => have := LMc15.out; omega)
   intro v205 w22 ho hb hg hat
   rw [← Ny204.out] at ho
   have HO206 := Aside0.mk (ho)
   replace BK195 := Aside0.mk (blk_grown BK195.out hg (Kd.R_ne HO_201002.out BK195.out (by decide)))
   replace BK200 := Aside0.mk (blk_grown BK200.out hg (Kd.R_ne HO_201002.out BK200.out (by decide)))
   replace HI0 := Aside0.mk (IsS92.grown (by repeat ((with_reducible exact HI0.out))) hg (IsS92.own_ne HI0.out HO_201002.out (by decide)))
   replace HB := Aside0.mk (below_weaken (by repeat ((with_reducible exact HB.out))) HL.out hb)
   replace HK := Aside0.mk (KeepBut.trans (by repeat ((with_reducible exact HK.out))) (KeepBut.of_grown hg g) (Kd.R_base2 HO_201002.out))
   clear HO_201002
   clear ho hb hg hat
   obtain ⟨Ao23, co23, eo23⟩ := Kd.R_slice HO206.out
   (subst eo23)
   refine hK.out _ _ ⟨b84_ BK200.out 0 rfl, b84_ BK200.out 1 rfl, b84_ BK200.out 2 rfl⟩ (fun hHeld => ?_)
   clear hK K
   refine norm_ (a' := ?_) ?_ ?_
   rotate_left
   ·
    show Act.put _ (some 27) _ = _
    simp only [Act.put, List.setIfInBounds_toArray, List.set_cons_zero, List.set_cons_succ, i64_w, i32_w]
    rfl
   refine pure_ (i := 7) (N := some 28) (v := ?_) (a' := ?_) #[true, true, true, true, true, true, true, true, false] rfl rfl (any_of HT_.out (by kernel_rfl)) (fun _ _ _ h => h) (Or.inl ⟨by rfl, ?_⟩) ?_ ?_
   rotate_left
   ·
    intro w'
    go_simp
    with_reducible rfl
   rotate_left
   ·
    simp only [Act.put, List.setIfInBounds_toArray, List.set_cons_zero, List.set_cons_succ, i64_w, i32_w]
    rfl
   refine last_ (i := 8) (N := none) #[true, true, true, true, true, true, true, true, true] rfl rfl (one_of HT_.out (by kernel_rfl)) (by decide) (fun K hK => ?_)
   have hs24 : w22.cell? ⟨gb200, 2, none⟩ = some (.slice Ao19 x201002_1.length co19) := b84_ BK200.out 2 rfl
   have hfs24 := blk_frozen BK200.out 2
   have hns24_0 := NB195_200.out
   have hms24_0 := NB200_195.out
   refine skip_ (w1 := ?_) (by rfl) rfl ?_ ?_
   rotate_left
   ·
    go_simp
    rfl
   refine hK.out _ _ ?_
   clear hK K
   refine done_ (done_of HT_.out (by kernel_rfl)) ?_
   try go_wp2
   go_roundg k1
   case measure => have := HK1.out; omega
   case rel => exact ⟨(t202), (t203), (y204), (.slice Ao23 y204.length co23), H', ⟨by have := HK1.out; omega⟩, ⟨by (with_reducible repeat (first | apply Kd.R_alloc | apply Kd.R_drewN | apply Kd.R_drew)); exact Kd.R_mono (Kd.R_far (p := ⟨gb200, 2, none⟩) (Kd.R_types HO206.out BK200.out (by decide)) (fun _ hk => by exact hk.2) (.slice Ao23 y204.length co23)) (fun _ hk => trivial)⟩, ⟨by (with_reducible repeat (first | refine blk_drewN ?_ _ | refine blk_drew ?_ | refine blk_alloc ?_ _)); refine blk_far ?_ NB195_200.out _; (with_reducible repeat (first | refine blk_drewN ?_ _ | refine blk_drew ?_ | refine blk_alloc ?_ _)); exact BK195.out⟩, ⟨by (with_reducible repeat (first | refine blk_drewN ?_ _ | refine blk_drew ?_ | refine blk_alloc ?_ _)); refine blk_put (cs := #[.int .i64 a1, .int .i64 t197, .slice Ao19 x201002_1.length co19]) ?_ 2 _ rfl; (with_reducible repeat (first | refine blk_drewN ?_ _ | refine blk_drew ?_ | refine blk_alloc ?_ _)); exact BK200.out⟩, ⟨by repeat ((with_reducible first | exact HI0.out | refine IsS92.far ?_ NB0_200.out _))⟩, ⟨by repeat ((with_reducible first | exact HK.out | refine keep_far ?_ GW200.out _))⟩, ⟨by repeat ((with_reducible first | exact HB.out | refine below_set ?_ GE200.out))⟩⟩

/-! ### spec_l01Cur_blocks: function 56 -/
def spec_l01Cur_blocks.l0 : Nat → Int → Int → List (S26) → Int → Int → List Int → Int → Int → Option ((List (S26)) × Int × Int)
  | 0, _, _, _, _, _, _, _, _ => none
  | k + 1, x2, x3, x9, x10, x11, x1000, x1001, x1002 => if x11 > 0 then ((spec_l01Cur_block.f k x1000 x1001 x1002 x10 x2 x3).bind fun bt216 => (if x9.length < 3518437208883 then ((spec_l01Cur_pick.f x1000 bt216.2.2.2.1 bt216.2.2.2.2 4).bind fun bt226 => (spec_l01Cur_blocks.l0 k x2 x3 (x9 ++ [(⟨bt216.1, bt216.2.1, bt216.2.2.1⟩ : S26)]) (wrap64 ((wrap64 (x10 + 1)) + bt226.1)) (wrap64 (x11 - 1)) x1000 bt226.2.1 bt226.2.2)) else (none))) else (some (x9, x1001, x1002))
def spec_l01Cur_blocks.f (k : Nat) (s0_0 : List Int) (s0_1 : Int) (s0_2 : Int) (a1 : Int) (a2 : Int) (a3 : Int) : Option ((List (S26)) × Int × Int) := (spec_l01Cur_pick.f s0_0 s0_1 s0_2 3).bind fun bt210 => ((spec_l01Cur_pick.f s0_0 bt210.2.1 bt210.2.2 (wrap64 (a1 + 1))).bind fun bt213 => (spec_l01Cur_blocks.l0 k a2 a3 (([] : List (S26))) bt210.1 bt213.1 s0_0 bt213.2.1 bt213.2.2))
theorem spec_l01Cur_blocks.mono_l : ∀ k, (∀ y0 y1 y2 y3 y4 y5 y6 y7, LeO (spec_l01Cur_blocks.l0 k y0 y1 y2 y3 y4 y5 y6 y7) (spec_l01Cur_blocks.l0 (k + 1) y0 y1 y2 y3 y4 y5 y6 y7))
  | 0 => fun _ _ _ _ _ _ _ _ r h => by simp [spec_l01Cur_blocks.l0] at h
  | k + 1 => by
    have ih0 := spec_l01Cur_blocks.mono_l k
    · intro y0 y1 y2 y3 y4 y5 y6 y7
      unfold spec_l01Cur_blocks.l0
      repeat' first | (with_reducible exact ih0 _ _ _ _ _ _ _ _) | (with_reducible exact spec_l01Cur_block.mono _ _ _ _ _ _ _) | (with_reducible exact LeO.refl _) | (with_reducible refine LeO.ite ?_ ?_) | (with_reducible refine LeO.bind ?_ (fun _ => ?_))
theorem spec_l01Cur_blocks.mono : ∀ a0 a1 a2 a3 a4 a5 k, LeO (spec_l01Cur_blocks.f k a0 a1 a2 a3 a4 a5) (spec_l01Cur_blocks.f (k + 1) a0 a1 a2 a3 a4 a5) := by
  intro a0 a1 a2 a3 a4 a5 k
  have ih0 := spec_l01Cur_blocks.mono_l k
  unfold spec_l01Cur_blocks.f
  repeat' first | (with_reducible exact ih0 _ _ _ _ _ _ _ _) | (with_reducible exact LeO.refl _) | (with_reducible refine LeO.bind ?_ (fun _ => ?_))
set_option maxHeartbeats 8000000 in
set_option maxRecDepth 100000 in
theorem spec_l01Cur_blocks.calls (k : Nat) (g : Nat) (s0_0 : List Int) (s0_1 : Int) (s0_2 : Int) (a1 : Int) (a2 : Int) (a3 : Int) (r1 : List (S26)) (r2 : Int) (r3 : Int) (w0 w : World) (hI : IsS92 w0 w g s0_0 s0_1 s0_2) (hB : Below w0.heap.size w0 w) (h : spec_l01Cur_blocks.f k s0_0 s0_1 s0_2 a1 a2 a3 = some (r1, r2, r3)) :
    Calls Try.prog 56 #[.pointer (some ⟨g, 0, none⟩), .int .i64 a1, .int .i64 a2, .int .i64 a3] w fun e w' => ∃ v0_ : Value, e = .returned (v0_) ∧ Kd.S k26 26 w' w.heap.size (fun _ => True) v0_ r1 ∧ IsS92 w0 w' g s0_0 r2 r3 ∧ Below w0.heap.size w0 w' ∧ KeepBut w w' g none := by
 have HI0 := Aside0.mk hI
 have HK := Aside0.mk (KeepBut.refl w g none)
 have HL := Aside0.mk hB.size
 clear hI
 have HW0 := Aside0.mk hB.size
 have HB := Aside0.mk hB
 clear hB
 have H : ((spec_l01Cur_pick.f s0_0 s0_1 s0_2 3).bind fun bt210 => ((spec_l01Cur_pick.f s0_0 bt210.2.1 bt210.2.2 (wrap64 (a1 + 1))).bind fun bt213 => (spec_l01Cur_blocks.l0 k a2 a3 (([] : List (S26))) bt210.1 bt213.1 s0_0 bt213.2.1 bt213.2.2))) = some (r1, r2, r3) := h
 clear h
 obtain ⟨y207, hy207⟩ : ∃ y_ : List (S26), y_ = (([] : List (S26))) := ⟨_, rfl⟩
 replace H : ((spec_l01Cur_pick.f s0_0 s0_1 s0_2 3).bind fun bt210 => ((spec_l01Cur_pick.f s0_0 bt210.2.1 bt210.2.2 (wrap64 (a1 + 1))).bind fun bt213 => (spec_l01Cur_blocks.l0 k a2 a3 y207 bt210.1 bt213.1 s0_0 bt213.2.1 bt213.2.2))) = some (r1, r2, r3) := by (rw [hy207]; with_reducible exact H)
 have Ny207 := Aside0.mk hy207
 clear hy207
 replace H := Option.bind_eq_some_iff.mp H
 obtain ⟨⟨t210, t211, t212⟩, A50, H⟩ := H
 replace H : ((spec_l01Cur_pick.f s0_0 t211 t212 (wrap64 (a1 + 1))).bind fun bt213 => (spec_l01Cur_blocks.l0 k a2 a3 y207 t210 bt213.1 s0_0 bt213.2.1 bt213.2.2)) = some (r1, r2, r3) := H
 have A5 := Aside0.mk A50
 clear A50
 replace H := Option.bind_eq_some_iff.mp H
 obtain ⟨⟨t213, t214, t215⟩, A60, H⟩ := H
 replace H : (spec_l01Cur_blocks.l0 k a2 a3 y207 t210 t213 s0_0 t214 t215) = some (r1, r2, r3) := H
 have A6 := Aside0.mk A60
 clear A60
 have H' := Aside0.mk H
 clear H
 go_enter Try.func56, Try.ntmps56
 go_wp2_with (first | ((with_reducible refine gate_dst (N := 12) rfl ?_); refine Kd.S_lit k26 _ 26 ?hg (N := 12) ?hd (xs := ([] : List (S26))) (inner := []) (ok := fun _ => True) (okp := fun _ => True) ?hr ?hp (fun _ hk => hk) trivial (Below.refl _ _) (Nat.le_refl _) (by simp) ?_; (case hd => rfl); (case hg => rfl); (case hr => (go_simp; done)); (case hp => exact (Reps.none _ _)); intro v208 w7 ho8 hb hg_ hnew_; clear hg_ hnew_; (rw [← Ny207.out] at ho8); have n0_ := Aside0.mk (Kd.S_lower ho8 (keep_size (w := w) (g := g) (row := none) (by repeat ((with_reducible exact HK.out))))); have n1_ := Aside0.mk (IsS92.below (by repeat ((with_reducible exact HI0.out))) hb); have n2_ := Aside0.mk (KeepBut.trans (by repeat ((with_reducible exact HK.out))) (KeepBut.of_below hb g none) (.inl rfl)); have n3_ := Aside0.mk (below_step (by repeat ((with_reducible exact HB.out))) hb); clear HI0; clear HK; clear HB; have HO209 := n0_; have HI0 := n1_; have HK := n2_; have HB := n3_; clear n0_ n1_ n2_ n3_; clear hb ho8) | ((with_reducible refine gate_callee (f := 82) rfl ?_); refine goesL_ (some 14) rfl rfl Try.func82 (by kernel_rfl) rfl #[.pointer (some ⟨g, 0, none⟩), .int .i64 3] rfl (by (try simp only [List.map_toArray, List.map_cons, List.map_nil]); rfl) ?_; (with_reducible refine (spec_l01Cur_pick.calls g s0_0 s0_1 s0_2 3 t210 t211 t212 w0 _ ?side1 ?side2 A5.out).mono ?_); (case side1 => repeat ((with_reducible exact HI0.out))); (case side2 => repeat ((with_reducible exact HB.out))); rintro e w9 ⟨rfl, hi, hb, hk⟩; refine ⟨_, rfl, ?_⟩; have n0_ := Aside0.mk (Kd.S_mono (Kd.S_keep (IsS92.apartS (show IsS92 w0 _ g s0_0 s0_1 s0_2 from by repeat ((with_reducible exact HI0.out))) (by (with_reducible repeat (first | apply Kd.S_alloc | apply Kd.S_drewN | apply Kd.S_drew)); exact HO209.out) (by decide)) hk (fun _ h => h.2)) (fun _ h => h.1)); have n1_ := Aside0.mk (KeepBut.trans (by repeat ((with_reducible exact HK.out))) hk (.inl rfl)); have n2_ := Aside0.mk (hb); have n3_ := Aside0.mk (hi); clear HO209; clear HK; clear HB; clear HI0; have HO209 := n0_; have HK := n1_; have HB := n2_; have HI0 := n3_; clear n0_ n1_ n2_ n3_; (try clear hb); (try clear hb2); (try clear hk); (try clear hi)) | ((with_reducible refine gate_callee (f := 82) rfl ?_); refine goesL_ (some 18) rfl rfl Try.func82 (by kernel_rfl) rfl #[.pointer (some ⟨g, 0, none⟩), .int .i64 (wrap64 (a1 + 1))] rfl (by (try simp only [List.map_toArray, List.map_cons, List.map_nil]); rfl) ?_; (with_reducible refine (spec_l01Cur_pick.calls g s0_0 t211 t212 (wrap64 (a1 + 1)) t213 t214 t215 w0 _ ?side1 ?side2 A6.out).mono ?_); (case side1 => repeat ((with_reducible exact HI0.out))); (case side2 => repeat ((with_reducible exact HB.out))); rintro e w10 ⟨rfl, hi, hb, hk⟩; refine ⟨_, rfl, ?_⟩; have n0_ := Aside0.mk (Kd.S_mono (Kd.S_keep (IsS92.apartS (show IsS92 w0 _ g s0_0 t211 t212 from by repeat ((with_reducible exact HI0.out))) (by (with_reducible repeat (first | apply Kd.S_alloc | apply Kd.S_drewN | apply Kd.S_drew)); exact HO209.out) (by decide)) hk (fun _ h => h.2)) (fun _ h => h.1)); have n1_ := Aside0.mk (KeepBut.trans (by repeat ((with_reducible exact HK.out))) hk (.inl rfl)); have n2_ := Aside0.mk (hb); have n3_ := Aside0.mk (hi); clear HO209; clear HK; clear HB; clear HI0; have HO209 := n0_; have HK := n1_; have HB := n2_; have HI0 := n3_; clear n0_ n1_ n2_ n3_; (try clear hb); (try clear hb2); (try clear hk); (try clear hi)))
 go_loopg [9, 10, 11] k (fun kq v9 v10 v11 w' => ∃ (x9_1 : List (S26)) (x10_1 : Int) (x11_1 : Int) (x1001_1 : Int) (x1002_1 : Int), v10 = .int .i64 x10_1 ∧ v11 = .int .i64 x11_1 ∧ Aside0 (spec_l01Cur_blocks.l0 kq a2 a3 x9_1 x10_1 x11_1 s0_0 x1001_1 x1002_1 = some (r1, r2, r3)) ∧ Aside0 (kq ≤ k) ∧ Aside0 (Kd.S k26 26 w' w.heap.size (fun _ => True) v9 x9_1) ∧ Aside0 (IsS92 w0 w' g s0_0 x1001_1 x1002_1) ∧ Aside0 (KeepBut w w' g none) ∧ Aside0 (Below w0.heap.size w0 w'))
 case atStart => exact ⟨(y207), (t210), (t213), (t214), (t215), (by rfl), (by rfl), H', ⟨Nat.le_refl _⟩, ⟨by (with_reducible repeat (first | apply Kd.S_alloc | apply Kd.S_drewN | apply Kd.S_drew)); exact HO209.out⟩, ⟨by repeat ((with_reducible exact HI0.out))⟩, ⟨by repeat ((with_reducible exact HK.out))⟩, ⟨by repeat ((with_reducible exact HB.out))⟩⟩
 case round =>
  clear H'
  try clear p2
  try clear c5
  try clear p6
  try clear c8
  obtain ⟨x9_1, x10_1, x11_1, x1001_1, x1002_1, rfl, rfl, HA, HK1, HO_9, HI0, HK, HB⟩ := hrel
  cases gk with
  | zero => exact absurd HA.out (by simp [spec_l01Cur_blocks.l0])
  | succ k1 =>
   have H := HA.out
   clear HA
   simp only [spec_l01Cur_blocks.l0] at H
   by_cases c11 : x11_1 > 0
   rotate_left
   ·
    rw [if_neg c11] at H
    have c11b0 : decide (0 < x11_1) = false := decide_eq_false c11
    clear c11
    simp only [Option.some.injEq, Prod.mk.injEq] at H
    obtain ⟨rfl, rfl, rfl⟩ := H
    go_wp2
    go_ret
    exact ⟨_, by rfl, by (with_reducible repeat (first | apply Kd.S_alloc | apply Kd.S_drewN | apply Kd.S_drew)); exact HO_9.out, by repeat ((with_reducible exact HI0.out)), by repeat ((with_reducible exact HB.out)), by repeat ((with_reducible exact HK.out))⟩
   rw [if_pos c11] at H
   have c11b0 : decide (0 < x11_1) = true := decide_eq_true c11
   clear c11
   replace H := Option.bind_eq_some_iff.mp H
   obtain ⟨⟨t216, t217, t218, t221, t222⟩, A120, H⟩ := H
   replace H : (if x9_1.length < 3518437208883 then ((spec_l01Cur_pick.f s0_0 t221 t222 4).bind fun bt226 => (spec_l01Cur_blocks.l0 k1 a2 a3 (x9_1 ++ [(⟨t216, t217, t218⟩ : S26)]) (wrap64 ((wrap64 (x10_1 + 1)) + bt226.1)) (wrap64 (x11_1 - 1)) s0_0 bt226.2.1 bt226.2.2)) else (none)) = some (r1, r2, r3) := H
   have A12 := Aside0.mk A120
   clear A120
   by_cases c13 : x9_1.length < 3518437208883
   rotate_left
   ·
    rw [if_neg c13] at H
    exact absurd H (by simp)
   rw [if_pos c13] at H
   have LMc13 := Aside0.mk c13
   clear c13
   obtain ⟨y223, hy223⟩ : ∃ y_ : List (S26), y_ = (x9_1 ++ [(⟨t216, t217, t218⟩ : S26)]) := ⟨_, rfl⟩
   replace H : ((spec_l01Cur_pick.f s0_0 t221 t222 4).bind fun bt226 => (spec_l01Cur_blocks.l0 k1 a2 a3 y223 (wrap64 ((wrap64 (x10_1 + 1)) + bt226.1)) (wrap64 (x11_1 - 1)) s0_0 bt226.2.1 bt226.2.2)) = some (r1, r2, r3) := by (rw [hy223]; with_reducible exact H)
   have Ny223 := Aside0.mk hy223
   clear hy223
   replace H := Option.bind_eq_some_iff.mp H
   obtain ⟨⟨t226, t227, t228⟩, A140, H⟩ := H
   replace H : (spec_l01Cur_blocks.l0 k1 a2 a3 y223 (wrap64 ((wrap64 (x10_1 + 1)) + t226)) (wrap64 (x11_1 - 1)) s0_0 t227 t228) = some (r1, r2, r3) := H
   have A14 := Aside0.mk A140
   clear A140
   have H' := Aside0.mk H
   clear H
   go_wp2_with (first | ((with_reducible refine gate_callee (f := 84) rfl ?_); refine goesL_ (some 28) rfl rfl Try.func84 (by kernel_rfl) rfl #[.pointer (some ⟨g, 0, none⟩), .int .i64 x10_1, .int .i64 a2, .int .i64 a3] rfl (by (try simp only [List.map_toArray, List.map_cons, List.map_nil]); rfl) ?_; (with_reducible refine (spec_l01Cur_block.calls k1 g s0_0 x1001_1 x1002_1 x10_1 a2 a3 t216 t217 t218 t221 t222 w0 _ ?side1 ?side2 A12.out).mono ?_); (case side1 => repeat ((with_reducible exact HI0.out))); (case side2 => repeat ((with_reducible exact HB.out))); rintro e w15 ⟨v219, rfl, ho0, hi, hb, hk⟩; refine ⟨_, rfl, ?_⟩; have n0_ := Aside0.mk (Kd.S_mono (Kd.S_told (Kd.S_oldK (IsS92.apartS (show IsS92 w0 _ g s0_0 x1001_1 x1002_1 from by repeat ((with_reducible exact HI0.out))) (by (with_reducible repeat (first | apply Kd.S_alloc | apply Kd.S_drewN | apply Kd.S_drew)); exact HO_9.out) (by decide)) hk) (Kd.R_base ho0)) (fun _ h_ => h_.1)); have n1_ := Aside0.mk (Kd.R_lower ho0 (keep_size (w := w) (g := g) (row := none) (by repeat ((with_reducible exact HK.out))))); have n2_ := Aside0.mk (KeepBut.trans (by repeat ((with_reducible exact HK.out))) hk (.inl rfl)); have n3_ := Aside0.mk (hb); have n4_ := Aside0.mk (hi); clear HO_9; clear HK; clear HB; clear HI0; have HO_9 := n0_; have HO220 := n1_; have HK := n2_; have HB := n3_; have HI0 := n4_; clear n0_ n1_ n2_ n3_ n4_; (try clear hb); (try clear hb2); (try clear hk); (try clear hi); (try clear ho0); obtain ⟨Ao17, co17, eo17⟩ := Kd.R_slice HO220.out; subst eo17) | ((with_reducible refine gate_builtin (b := .append) (xs := #[.tmp 23, .tmp 29]) rfl ?_); at_builtin; refine Kd.S_append k26 w.heap.size rfl (.tmp 23) (.tmp 29) 29 26 (.agg #[(.int .i64 0), (.int .i64 0), (.slice none 0 0)]) 40 rfl Try.underlying29 info26 rfl (by decide) (by omega) u9 x9_1 (⟨t216, t217, t218⟩ : S26) [.int .i64 t216, .int .i64 t217, .slice Ao17 t218.length co17] (fun _ => True) (fun k_ => some k_ = (.slice Ao17 t218.length co17 : Value).ownBlock) rfl rfl ?aP (fun k_ hk_ => ((Kd.R_mono (ok' := fun k_ => ((fun _ => True)) k_ ∧ some k_ ≠ (u9 : Value).ownBlock) (Kd.R_apart' (HO220.out) (Kd.S_typed HO_9.out) (by decide)) (fun k_ hk => ⟨trivial, hk.2⟩))).1 k_ hk_.symm) ?aF ?aO (Below.refl _ _) ?aS ?aL ?_; (case aP => exact k26_mkM _ _ _ (⟨t216, t217, t218⟩ : S26) (Kd.R_mono (Kd.R_tight rfl (Kd.R_mono (ok' := fun k_ => ((fun _ => True)) k_ ∧ some k_ ≠ (u9 : Value).ownBlock) (Kd.R_apart' (HO220.out) (Kd.S_typed HO_9.out) (by decide)) (fun k_ hk => ⟨trivial, hk.2⟩))) (fun _ h_ => h_))); (case aF => exact (fun _ _ => trivial)); (case aO => exact (by (with_reducible repeat (first | apply Kd.S_alloc | apply Kd.S_drewN | apply Kd.S_drew)); exact Kd.S_mono HO_9.out (fun k_ hk => ⟨trivial, fun e_ => hk.2 e_⟩))); (case aS => exact (keep_size (w := w) (g := g) (row := none) (by repeat ((with_reducible exact HK.out))))); (case aL => have := LMc13.out; omega); intro v224 w16 ho hb hg hat; rw [← Ny223.out] at ho; have n0_ := Aside0.mk (IsS92.grown (by repeat ((with_reducible exact HI0.out))) hg (IsS92.own_neS HI0.out HO_9.out (by decide))); have n1_ := Aside0.mk (below_weaken (by repeat ((with_reducible exact HB.out))) HL.out hb); have n2_ := Aside0.mk (KeepBut.trans (by repeat ((with_reducible exact HK.out))) (KeepBut.of_grown hg g) (Kd.S_base2 HO_9.out)); have n3_ := Aside0.mk (ho); clear HI0; clear HB; clear HK; clear HO_9; clear HO220; have HI0 := n0_; have HB := n1_; have HK := n2_; have HO225 := n3_; clear n0_ n1_ n2_ n3_; clear ho hb hg hat) | ((with_reducible refine gate_callee (f := 82) rfl ?_); refine goesL_ (some 34) rfl rfl Try.func82 (by kernel_rfl) rfl #[.pointer (some ⟨g, 0, none⟩), .int .i64 4] rfl (by (try simp only [List.map_toArray, List.map_cons, List.map_nil]); rfl) ?_; (with_reducible refine (spec_l01Cur_pick.calls g s0_0 t221 t222 4 t226 t227 t228 w0 _ ?side1 ?side2 A14.out).mono ?_); (case side1 => repeat ((with_reducible exact HI0.out))); (case side2 => repeat ((with_reducible exact HB.out))); rintro e w18 ⟨rfl, hi, hb, hk⟩; refine ⟨_, rfl, ?_⟩; have n0_ := Aside0.mk (Kd.S_mono (Kd.S_keep (IsS92.apartS (show IsS92 w0 _ g s0_0 t221 t222 from by repeat ((with_reducible exact HI0.out))) (by (with_reducible repeat (first | apply Kd.S_alloc | apply Kd.S_drewN | apply Kd.S_drew)); exact HO225.out) (by decide)) hk (fun _ h => h.2)) (fun _ h => h.1)); have n1_ := Aside0.mk (KeepBut.trans (by repeat ((with_reducible exact HK.out))) hk (.inl rfl)); have n2_ := Aside0.mk (hb); have n3_ := Aside0.mk (hi); clear HO225; clear HK; clear HB; clear HI0; have HO225 := n0_; have HK := n1_; have HB := n2_; have HI0 := n3_; clear n0_ n1_ n2_ n3_; (try clear hb); (try clear hb2); (try clear hk); (try clear hi)))
   go_roundg k1
   case measure => have := HK1.out; omega
   case rel => exact ⟨(y223), (wrap64 ((wrap64 (x10_1 + 1)) + t226)), (wrap64 (x11_1 - 1)), (t227), (t228), (by rfl), (by rfl), H', ⟨by have := HK1.out; omega⟩, ⟨by (with_reducible repeat (first | apply Kd.S_alloc | apply Kd.S_drewN | apply Kd.S_drew)); exact HO225.out⟩, ⟨by repeat ((with_reducible exact HI0.out))⟩, ⟨by repeat ((with_reducible exact HK.out))⟩, ⟨by repeat ((with_reducible exact HB.out))⟩⟩

/-! ### spec_l12Clip: function 57 -/
def spec_l12Clip.f (a0 : Int) : Option (Int) := some (mn 4 (mx 0 a0))
set_option maxHeartbeats 8000000 in
set_option maxRecDepth 100000 in
theorem spec_l12Clip.calls (a0 : Int) (r : Int) (w : World) (h : spec_l12Clip.f a0 = some r) :
    Calls Try.prog 57 #[.int .i64 a0] w fun e w' => e = .returned (.int .i64 r) ∧ Below w.heap.size w w' := by
 have HB := Aside0.mk (Below.refl w.heap.size w)
 have H : (some (mn 4 (mx 0 a0))) = some r := h
 clear h
 obtain ⟨ji2, hji2⟩ : ∃ j_ : Int, (mx 0 a0) = j_ := ⟨_, rfl⟩
 replace H : (some (mn 4 (ji2))) = some r := by (rw [hji2] at H; exact H)
 (try (have hji2l : 0 ≤ ji2 := by (rw [← hji2]; unfold mx; (repeat' split) <;> omega)))
 (try (have hji2m : 0 ≤ ji2 := by omega))
 have hji2_ : (if 0 < a0 then a0 else 0) = ji2 := hji2
 obtain ⟨ji3, hji3⟩ : ∃ j_ : Int, (mn 4 (ji2)) = j_ := ⟨_, rfl⟩
 replace H : (some ji3) = some r := by (rw [hji3] at H; exact H)
 have hji3_ : (if (ji2) < 4 then (ji2) else 4) = ji3 := hji3
 obtain rfl := Option.some.inj H
 go_enter Try.func57, Try.ntmps57
 go_wp2
 go_ret
 exact ⟨by rfl, by repeat ((with_reducible exact HB.out))⟩

end Go.Proofs.Ytggfndobfpmoaaa.PFnEvicted

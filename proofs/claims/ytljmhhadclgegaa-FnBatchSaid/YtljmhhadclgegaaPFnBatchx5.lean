-- Laid by a program of this session: what the print of the kit writes, and contracts of the session where the print takes no function. Lean checks it.
import Derived.Test.YtljmhhadclgegaaPFnBatchx0
import Derived.Test.YtljmhhadclgegaaPFnBatchx3
import Derived.Test.YtljmhhadclgegaaPFnBatchx4
namespace Go.Proofs.Ytljmhhadclgegaa.PFnBatch
open Go.RowKit Go.Proofs.YtljmhhadclgegaaW.PrintWords Go.Proofs.YtljmhhadclgegaaW.PrintLast Go.Proofs.YtljmhhadclgegaaW.PrintMore
attribute [local go_sem] max2_int min2_int max_two min_two max_three min_three max_four min_four   -- for this text's walks alone
set_option linter.unusedVariables false
set_option linter.unusedSimpArgs false

/-! ### impl_planesWords: function 65 -/
mutual
def impl_planesWords.j0 : Nat → Bool → Int → List Int → List Int → Option (List ByteArray × Bool)
  | 0, _, _, _, _ => none
  | k + 1, x26, x160000, x160001, x160002 => if x26 = true then (some (([] : List ByteArray), false)) else (if 0 ≤ x160000 then (if (x160000 : Int).toNat ≤ 17592186044416 then ((some (List.replicate (x160000 : Int).toNat (⟨#[]⟩ : ByteArray) : List ByteArray)).bind fun y161 => (impl_planesWords.l0 k y161 (y161.length : Int) 0 x160000 x160001 x160002)) else (none)) else (none))
def impl_planesWords.l0 : Nat → List ByteArray → Int → Int → Int → List Int → List Int → Option (List ByteArray × Bool)
  | 0, _, _, _, _, _, _ => none
  | k + 1, x4, x31, x32, x160000, x160001, x160002 => if x32 < x31 then ((impl_laneOf.f k x160001 x32).bind fun t164 => (if t164 > 32 then (some (([] : List ByteArray), false)) else (if 0 ≤ t164 then (if (t164 : Int).toNat ≤ 281474976710656 then ((some (List.replicate (t164 : Int).toNat 0 : List Int)).bind fun y165 => (impl_planesWords.l1 k x4 x32 y165 x31 x32 (y165.length : Int) 0 x160000 x160001 x160002)) else (none)) else (none)))) else ((impl_planesOf.f k x4).bind fun bt172 => (if bt172.2.2.2 = true then ((slices_Equal_uint64_uint64.f k bt172.2.1 x160001).bind fun t181 => (if t181 = true then ((slices_Equal_uint64_uint64.f k bt172.2.2.1 x160002).bind fun t182 => (if t182 = true then (some (x4, true)) else (some (([] : List ByteArray), false)))) else (some (([] : List ByteArray), false)))) else (some (([] : List ByteArray), false))))
def impl_planesWords.l1 : Nat → List ByteArray → Int → List Int → Int → Int → Int → Int → Int → List Int → List Int → Option (List ByteArray × Bool)
  | 0, _, _, _, _, _, _, _, _, _, _ => none
  | k + 1, x4, x5, x7, x31, x32, x44, x45, x160000, x160001, x160002 => if x45 < x44 then (if 0 ≤ (wrap64 (5 * x45)) then (if (wrap64 (5 * x45)) ≤ (wrap64 ((wrap64 (5 * x45)) + 5)) then (if (wrap64 ((wrap64 (5 * x45)) + 5)) ≤ (x160002.length : Int) then ((impl_laneOf.f k ((x160002.take ((wrap64 ((wrap64 (5 * x45)) + 5)) : Int).toNat).drop ((wrap64 (5 * x45)) : Int).toNat) x5).bind fun t169 => (if 0 ≤ x45 then (if x45 < (x7.length : Int) then (impl_planesWords.l1 k x4 x5 (x7.set (x45 : Int).toNat ((wrap64 (96 + t169)) % 256)) x31 x32 x44 (wrap64 (x45 + 1)) x160000 x160001 x160002) else (none)) else (none))) else (none)) else (none)) else (none)) else (if 0 ≤ x5 then (if x5 < (x4.length : Int) then (impl_planesWords.l0 k (x4.set (x5 : Int).toNat (strOfNums x7)) x31 (wrap64 (x32 + 1)) x160000 x160001 x160002) else (none)) else (none))
end
def impl_planesWords.f (k : Nat) (a0_0 : Int) (l0_1 : List Int) (l0_2 : List Int) : Option (List ByteArray × Bool) := (impl_within.f a0_0 0 64).bind fun t160 => (if t160 = true then (if (l0_1.length : Int) = 6 then (impl_planesWords.j0 k ((l0_2.length : Int) != 160) a0_0 l0_1 l0_2) else (impl_planesWords.j0 k true a0_0 l0_1 l0_2)) else (impl_planesWords.j0 k true a0_0 l0_1 l0_2))
theorem impl_planesWords.mono_l : ∀ k, (∀ y0 y1 y2 y3, LeO (impl_planesWords.j0 k y0 y1 y2 y3) (impl_planesWords.j0 (k + 1) y0 y1 y2 y3)) ∧ (∀ y0 y1 y2 y3 y4 y5, LeO (impl_planesWords.l0 k y0 y1 y2 y3 y4 y5) (impl_planesWords.l0 (k + 1) y0 y1 y2 y3 y4 y5)) ∧ (∀ y0 y1 y2 y3 y4 y5 y6 y7 y8 y9, LeO (impl_planesWords.l1 k y0 y1 y2 y3 y4 y5 y6 y7 y8 y9) (impl_planesWords.l1 (k + 1) y0 y1 y2 y3 y4 y5 y6 y7 y8 y9))
  | 0 => ⟨fun _ _ _ _ r h => by simp [impl_planesWords.j0] at h, fun _ _ _ _ _ _ r h => by simp [impl_planesWords.l0] at h, fun _ _ _ _ _ _ _ _ _ _ r h => by simp [impl_planesWords.l1] at h⟩
  | k + 1 => by
    obtain ⟨ih0, ih1, ih2⟩ := impl_planesWords.mono_l k
    refine ⟨?_, ?_, ?_⟩
    · intro y0 y1 y2 y3
      unfold impl_planesWords.j0
      repeat' first | (with_reducible exact ih1 _ _ _ _ _ _) | (with_reducible exact LeO.refl _) | (with_reducible refine LeO.ite ?_ ?_) | (with_reducible refine LeO.bind ?_ (fun _ => ?_))
    · intro y0 y1 y2 y3 y4 y5
      unfold impl_planesWords.l0
      repeat' first | (with_reducible exact ih2 _ _ _ _ _ _ _ _ _ _) | (with_reducible exact impl_laneOf.mono _ _ _) | (with_reducible exact impl_planesOf.mono _ _) | (with_reducible exact slices_Equal_uint64_uint64.mono _ _ _) | (with_reducible exact LeO.refl _) | (with_reducible refine LeO.ite ?_ ?_) | (with_reducible refine LeO.bind ?_ (fun _ => ?_))
    · intro y0 y1 y2 y3 y4 y5 y6 y7 y8 y9
      unfold impl_planesWords.l1
      repeat' first | (with_reducible exact ih1 _ _ _ _ _ _) | (with_reducible exact ih2 _ _ _ _ _ _ _ _ _ _) | (with_reducible exact impl_laneOf.mono _ _ _) | (with_reducible exact LeO.refl _) | (with_reducible refine LeO.ite ?_ ?_) | (with_reducible refine LeO.bind ?_ (fun _ => ?_))
theorem impl_planesWords.mono : ∀ a0 a1 a2 k, LeO (impl_planesWords.f k a0 a1 a2) (impl_planesWords.f (k + 1) a0 a1 a2) := by
  intro a0 a1 a2 k
  obtain ⟨ih0, ih1, ih2⟩ := impl_planesWords.mono_l k
  unfold impl_planesWords.f
  repeat' first | (with_reducible exact ih0 _ _ _ _) | (with_reducible exact LeO.refl _) | (with_reducible refine LeO.ite ?_ ?_) | (with_reducible refine LeO.bind ?_ (fun _ => ?_))
theorem b65_ {w : World} {g : Nat} {t : TypeId} {cs : Array Value} {v : Value} (h : w.heap[g]? = some (.cells cs t (0, 0))) (i : Nat) (hv : cs[i]? = some v) : w.cell? ⟨g, i, none⟩ = some v := (blk_cell h i).trans hv
set_option maxHeartbeats 8000000 in
set_option maxRecDepth 100000 in
theorem impl_planesWords.calls (k : Nat) (a0_0 : Int) (A0_1 : Option Addr) (c0_1 : Nat) (l0_1 : List Int) (A0_2 : Option Addr) (c0_2 : Nat) (l0_2 : List Int) (r1 : List ByteArray) (r2 : Bool) (w : World) (hr0_1 : Kd.C (Kd.int .u64) w A0_1 l0_1.length l0_1) (hc0_1 : l0_1.length ≤ c0_1) (hr0_2 : Kd.C (Kd.int .u64) w A0_2 l0_2.length l0_2) (hc0_2 : l0_2.length ≤ c0_2) (h : impl_planesWords.f k a0_0 l0_1 l0_2 = some (r1, r2)) :
    Calls Try.prog 65 #[.agg #[.int .i64 a0_0, .slice A0_1 l0_1.length c0_1, .slice A0_2 l0_2.length c0_2]] w fun e w' => ∃ v0_ : Value, e = .returned (.tuple #[v0_, .bool r2]) ∧ Kd.R Kd.string 9 w' w.heap.size (fun _ => True) v0_ r1 ∧ Below w.heap.size w w' := by
 have hu37 := Try.underlying37
 have HR0_1 := Aside0.mk hr0_1
 have HC0_1 := Aside0.mk hc0_1
 clear hr0_1 hc0_1
 have HR0_2 := Aside0.mk hr0_2
 have HC0_2 := Aside0.mk hc0_2
 clear hr0_2 hc0_2
 have HB := Aside0.mk (Below.refl w.heap.size w)
 have H : ((impl_within.f a0_0 0 64).bind fun t160 => (if t160 = true then (if (l0_1.length : Int) = 6 then (impl_planesWords.j0 k ((l0_2.length : Int) != 160) a0_0 l0_1 l0_2) else (impl_planesWords.j0 k true a0_0 l0_1 l0_2)) else (impl_planesWords.j0 k true a0_0 l0_1 l0_2))) = some (r1, r2) := h
 clear h
 have HC2 := Aside0.mk H
 clear H
 go_enter Try.func65, Try.ntmps65
 go_upto_region 1 with (((with_reducible refine gate_dst (N := 1) rfl ?_); (try (refine gate_guard (by rfl) ?_; dsimp only)); refine box_event ?hg (N := 1) ?hd (cs := #[.int .i64 a0_0, .slice A0_1 l0_1.length c0_1, .slice A0_2 l0_2.length c0_2]) (t := 37) ?hr ?_; (case hd => rfl); (case hg => rfl); (case hr => (go_simp; done)); intro gb159 hg w3 hbox hb; have n0_ := Aside0.mk (below_step HB.out hb); have n1_ := Aside0.mk (hbox); have n2_ := Aside0.mk ((by rw [hg]; exact (below_size HB.out) : w.heap.size ≤ gb159)); have n3_ := Aside0.mk ((by rw [hg]; exact (below_size HB.out) : w.heap.size ≤ gb159)); clear HB; have HB := n0_; have BK159 := n1_; have GW159 := n2_; have GE159 := n3_; clear n0_ n1_ n2_ n3_; clear hb hbox hg))
 (try simp only [Act.put, List.setIfInBounds_toArray, List.set_cons_zero, List.set_cons_succ])
 go_cut [26] (fun v26 wc => ∃ (kq : Nat) (x26_1 : Bool), v26 = .bool x26_1 ∧ Aside0 (impl_planesWords.j0 kq x26_1 a0_0 l0_1 l0_2 = some (r1, r2)) ∧ Aside0 (kq ≤ k) ∧ Aside0 (wc.heap[gb159]? = some (.cells #[.int .i64 a0_0, (.slice A0_1 l0_1.length c0_1), (.slice A0_2 l0_2.length c0_2)] 37 (0, 0))) ∧ Aside0 (Below w.heap.size w wc))
 case first =>
  have H := HC2.out
  clear HC2
  replace H := Option.bind_eq_some_iff.mp H
  obtain ⟨t160, A40, H⟩ := H
  replace H : (if t160 = true then (if (l0_1.length : Int) = 6 then (impl_planesWords.j0 k ((l0_2.length : Int) != 160) a0_0 l0_1 l0_2) else (impl_planesWords.j0 k true a0_0 l0_1 l0_2)) else (impl_planesWords.j0 k true a0_0 l0_1 l0_2)) = some (r1, r2) := H
  have A4 := Aside0.mk A40
  clear A40
  by_cases c5 : t160 = true
  rotate_left
  ·
   replace c5 := Bool.eq_false_iff.mpr c5
   subst c5
   have H1 : (impl_planesWords.j0 k true a0_0 l0_1 l0_2) = some (r1, r2) := by rw [if_neg (show ¬ (false = true) by decide)] at H; exact H
   clear H
   have H := H1
   clear H1
   have H' := Aside0.mk H
   clear H
   have hcz9_0 : w3.cell? ⟨gb159, 0, none⟩ = some (.int .i64 a0_0) := b65_ BK159.out 0 rfl
   have hcz9_1 : w3.cell? ⟨gb159, 1, none⟩ = some (.slice A0_1 l0_1.length c0_1) := b65_ BK159.out 1 rfl
   have hcz9_2 : w3.cell? ⟨gb159, 2, none⟩ = some (.slice A0_2 l0_2.length c0_2) := b65_ BK159.out 2 rfl
   have hfz9_0 := blk_frozen BK159.out 0
   have hfz9_1 := blk_frozen BK159.out 1
   have hfz9_2 := blk_frozen BK159.out 2
   go_wp2_with (((with_reducible refine gate_callee (f := 50) rfl ?_); refine goesL_ (some 13) rfl rfl Try.func50 (by kernel_rfl) rfl #[.int .i64 a0_0, .int .i64 0, .int .i64 64] rfl (by (try simp only [List.map_toArray, List.map_cons, List.map_nil]); rfl) ?_; (with_reducible refine (impl_within.calls a0_0 0 64 false _ A4.out).mono ?_); rintro e w' ⟨rfl, ⟨nd, rfl⟩⟩; refine ⟨_, rfl, ?_⟩))
   go_meet
   case rel => exact ⟨_, (true), (by rfl), H', ⟨by omega⟩, ⟨by (with_reducible repeat (refine blk_drewN ?_ _)); exact BK159.out⟩, ⟨by repeat ((with_reducible first | exact HB.out | apply pw_below_drewN))⟩⟩
  subst c5
  have H1 : (if (l0_1.length : Int) = 6 then (impl_planesWords.j0 k ((l0_2.length : Int) != 160) a0_0 l0_1 l0_2) else (impl_planesWords.j0 k true a0_0 l0_1 l0_2)) = some (r1, r2) := by rw [if_pos rfl] at H; exact H
  clear H
  have H := H1
  clear H1
  by_cases c6 : (l0_1.length : Int) = 6
  ·
   rw [if_pos c6] at H
   have c6b0 : ((l0_1.length : Int) == 6) = true := beq_iff_eq.mpr c6
   have c6b1 : ((l0_1.length : Int) != 6) = false := bne_eq_false_iff_eq.mpr c6
   clear c6
   (skip)
   have H' := Aside0.mk H
   clear H
   have hcz7_0 : w3.cell? ⟨gb159, 0, none⟩ = some (.int .i64 a0_0) := b65_ BK159.out 0 rfl
   have hcz7_1 : w3.cell? ⟨gb159, 1, none⟩ = some (.slice A0_1 l0_1.length c0_1) := b65_ BK159.out 1 rfl
   have hcz7_2 : w3.cell? ⟨gb159, 2, none⟩ = some (.slice A0_2 l0_2.length c0_2) := b65_ BK159.out 2 rfl
   have hfz7_0 := blk_frozen BK159.out 0
   have hfz7_1 := blk_frozen BK159.out 1
   have hfz7_2 := blk_frozen BK159.out 2
   go_wp2_with (((with_reducible refine gate_callee (f := 50) rfl ?_); refine goesL_ (some 13) rfl rfl Try.func50 (by kernel_rfl) rfl #[.int .i64 a0_0, .int .i64 0, .int .i64 64] rfl (by (try simp only [List.map_toArray, List.map_cons, List.map_nil]); rfl) ?_; (with_reducible refine (impl_within.calls a0_0 0 64 true _ A4.out).mono ?_); rintro e w' ⟨rfl, ⟨nd, rfl⟩⟩; refine ⟨_, rfl, ?_⟩))
   go_meet
   case rel => exact ⟨_, (((l0_2.length : Int) != 160)), (by rfl), H', ⟨by omega⟩, ⟨by (with_reducible repeat (refine blk_drewN ?_ _)); exact BK159.out⟩, ⟨by repeat ((with_reducible first | exact HB.out | apply pw_below_drewN))⟩⟩
  rw [if_neg c6] at H
  have c6b0 : ((l0_1.length : Int) == 6) = false := beq_eq_false_iff_ne.mpr c6
  have c6b1 : ((l0_1.length : Int) != 6) = true := bne_iff_ne.mpr c6
  (skip)
  have H' := Aside0.mk H
  clear H
  have hcz8_0 : w3.cell? ⟨gb159, 0, none⟩ = some (.int .i64 a0_0) := b65_ BK159.out 0 rfl
  have hcz8_1 : w3.cell? ⟨gb159, 1, none⟩ = some (.slice A0_1 l0_1.length c0_1) := b65_ BK159.out 1 rfl
  have hcz8_2 : w3.cell? ⟨gb159, 2, none⟩ = some (.slice A0_2 l0_2.length c0_2) := b65_ BK159.out 2 rfl
  have hfz8_0 := blk_frozen BK159.out 0
  have hfz8_1 := blk_frozen BK159.out 1
  have hfz8_2 := blk_frozen BK159.out 2
  go_wp2_with (((with_reducible refine gate_callee (f := 50) rfl ?_); refine goesL_ (some 13) rfl rfl Try.func50 (by kernel_rfl) rfl #[.int .i64 a0_0, .int .i64 0, .int .i64 64] rfl (by (try simp only [List.map_toArray, List.map_cons, List.map_nil]); rfl) ?_; (with_reducible refine (impl_within.calls a0_0 0 64 true _ A4.out).mono ?_); rintro e w' ⟨rfl, ⟨nd, rfl⟩⟩; refine ⟨_, rfl, ?_⟩))
  go_meet
  case rel => exact ⟨_, (true), (by rfl), H', ⟨by omega⟩, ⟨by (with_reducible repeat (refine blk_drewN ?_ _)); exact BK159.out⟩, ⟨by repeat ((with_reducible first | exact HB.out | apply pw_below_drewN))⟩⟩
 case rest =>
  clear HC2
  try clear p2
  try clear c5
  try clear c6
  try clear c6b0
  try clear c6b1
  try clear hcz7_0
  try clear hcz7_1
  try clear hcz7_2
  try clear hcz8_0
  try clear hcz8_1
  try clear hcz8_2
  try clear hcz9_0
  try clear hcz9_1
  try clear hcz9_2
  try clear hfz7_0
  try clear hfz7_1
  try clear hfz7_2
  try clear hfz8_0
  try clear hfz8_1
  try clear hfz8_2
  try clear hfz9_0
  try clear hfz9_1
  try clear hfz9_2
  obtain ⟨kq, x26_1, rfl, HA, HJ1, BK159, HB⟩ := hcut
  cases kq with
  | zero => exact absurd HA.out (by simp [impl_planesWords.j0])
  | succ kj1 =>
   have H := HA.out
   clear HA
   simp only [impl_planesWords.j0] at H
   by_cases c10 : x26_1 = true
   ·
    subst c10
    have H1 : (some (([] : List ByteArray), false)) = some (r1, r2) := by rw [if_pos rfl] at H; exact H
    clear H
    have H := H1
    clear H1
    simp only [Option.some.injEq, Prod.mk.injEq] at H
    obtain ⟨rfl, rfl⟩ := H
    go_wp2
    go_ret2
    exact ⟨_, by rfl, by exact Kd.R_nil _ _ _ _ _, by repeat ((with_reducible exact HB.out))⟩
   replace c10 := Bool.eq_false_iff.mpr c10
   subst c10
   have H1 : (if 0 ≤ a0_0 then (if (a0_0 : Int).toNat ≤ 17592186044416 then ((some (List.replicate (a0_0 : Int).toNat (⟨#[]⟩ : ByteArray) : List ByteArray)).bind fun y161 => (impl_planesWords.l0 kj1 y161 (y161.length : Int) 0 a0_0 l0_1 l0_2)) else (none)) else (none)) = some (r1, r2) := by rw [if_neg (show ¬ (false = true) by decide)] at H; exact H
   clear H
   have H := H1
   clear H1
   by_cases c11 : 0 ≤ a0_0
   rotate_left
   ·
    rw [if_neg c11] at H
    exact absurd H (by simp)
   rw [if_pos c11] at H
   have c11b0 := eq_true c11
   have c11b1 : decide (0 ≤ a0_0) = true := decide_eq_true c11
   clear c11
   by_cases c12 : (a0_0 : Int).toNat ≤ 17592186044416
   rotate_left
   ·
    rw [if_neg c12] at H
    exact absurd H (by simp)
   rw [if_pos c12] at H
   have c12b0 := eq_true c12
   have c12b1 : decide ((a0_0 : Int).toNat ≤ 17592186044416) = true := decide_eq_true c12
   clear c12
   obtain ⟨y161, hy161⟩ : ∃ y_ : List ByteArray, y_ = (List.replicate (a0_0 : Int).toNat (⟨#[]⟩ : ByteArray)) := ⟨_, rfl⟩
   replace H : (impl_planesWords.l0 kj1 y161 (y161.length : Int) 0 a0_0 l0_1 l0_2) = some (r1, r2) := by (have H2_ := (Option.bind_some _ _).symm.trans H; rw [hy161]; with_reducible exact H2_)
   have Ny161 := Aside0.mk hy161
   clear hy161
   have H' := Aside0.mk H
   clear H
   have hcz13_0 : wc.cell? ⟨gb159, 0, none⟩ = some (.int .i64 a0_0) := b65_ BK159.out 0 rfl
   have hcz13_1 : wc.cell? ⟨gb159, 1, none⟩ = some (.slice A0_1 l0_1.length c0_1) := b65_ BK159.out 1 rfl
   have hcz13_2 : wc.cell? ⟨gb159, 2, none⟩ = some (.slice A0_2 l0_2.length c0_2) := b65_ BK159.out 2 rfl
   have hfz13_0 := blk_frozen BK159.out 0
   have hfz13_1 := blk_frozen BK159.out 1
   have hfz13_2 := blk_frozen BK159.out 2
   go_wp2_with (((with_reducible refine gate_dst (N := 29) rfl ?_); (try (refine gate_guard (by rfl) ?_; dsimp only)); refine Kd.R_make Kd.string _ 9 rfl (N := 29) rfl 34 _ _ rfl a0_0 rfl rfl Try.underlying34 (.string ⟨#[]⟩) 16 info9 rfl (by decide) (by omega) (⟨#[]⟩ : ByteArray) (ok := fun _ => True) (okp := fun _ => True) rfl (fun _ hk => hk) trivial (of_decide_eq_true (by (with_reducible assumption))) (Nat.le_trans (Nat.mul_le_mul_right _ (of_decide_eq_true (by (with_reducible assumption)) : a0_0.toNat ≤ 17592186044416)) (by omega)) (Below.refl _ _) (Nat.le_refl _) ?_; intro v162 w14 ho15 hb hg_ hnew_; clear hg_ hnew_; (rw [← Ny161.out] at ho15); have n0_ := Aside0.mk (Kd.R_lower ho15 (below_size (by repeat ((with_reducible exact HB.out))))); have n1_ := Aside0.mk (blk_below (g := gb159) (o := .cells #[.int .i64 a0_0, .slice A0_1 l0_1.length c0_1, .slice A0_2 l0_2.length c0_2] 37 (0, 0)) (by (with_reducible repeat (first | refine blk_drewN ?_ _ | refine blk_drew ?_ | refine blk_alloc ?_ _)); exact BK159.out) hb); have n2_ := Aside0.mk (below_step (by repeat ((with_reducible exact HB.out))) hb); clear BK159; clear HB; have HO163 := n0_; have BK159 := n1_; have HB := n2_; clear n0_ n1_ n2_; clear hb ho15; obtain ⟨Ao16, co16, eo16⟩ := Kd.R_slice HO163.out; subst eo16))
   go_loopg [32] kj1 (fun kq v32 w' => ∃ (x4_2 : List ByteArray) (x32_2 : Int), v32 = .int .i64 x32_2 ∧ Aside0 (impl_planesWords.l0 kq x4_2 (y161.length : Int) x32_2 a0_0 l0_1 l0_2 = some (r1, r2)) ∧ Aside0 (kq ≤ kj1) ∧ Aside0 (Kd.R Kd.string 9 w' w.heap.size (fun _ => True) (.slice Ao16 y161.length co16) x4_2) ∧ Aside0 (w'.heap[gb159]? = some (.cells #[.int .i64 a0_0, (.slice A0_1 l0_1.length c0_1), (.slice A0_2 l0_2.length c0_2)] 37 (0, 0))) ∧ Aside0 (Below w.heap.size w w'))
   case atStart => exact ⟨(y161), (0), (by rfl), H', ⟨Nat.le_refl _⟩, ⟨by (with_reducible repeat (first | apply Kd.R_alloc | apply Kd.R_drewN | apply Kd.R_drew)); exact HO163.out⟩, ⟨by (with_reducible repeat (first | refine blk_drewN ?_ _ | refine blk_drew ?_ | refine blk_alloc ?_ _)); exact BK159.out⟩, ⟨by repeat ((with_reducible exact HB.out))⟩⟩
   case round =>
    clear H'
    try clear c1
    try clear p2
    try clear c5
    try clear c6
    try clear c6b0
    try clear c6b1
    try clear c10
    try clear c11
    try clear c11b0
    try clear c11b1
    try clear c12
    try clear c12b0
    try clear c12b1
    try clear hcz13_0
    try clear hcz13_1
    try clear hcz13_2
    try clear hcz7_0
    try clear hcz7_1
    try clear hcz7_2
    try clear hcz8_0
    try clear hcz8_1
    try clear hcz8_2
    try clear hcz9_0
    try clear hcz9_1
    try clear hcz9_2
    try clear hfz13_0
    try clear hfz13_1
    try clear hfz13_2
    try clear hfz7_0
    try clear hfz7_1
    try clear hfz7_2
    try clear hfz8_0
    try clear hfz8_1
    try clear hfz8_2
    try clear hfz9_0
    try clear hfz9_1
    try clear hfz9_2
    try clear p2
    obtain ⟨x4_2, x32_2, rfl, HA, HK2, HO_4, BK159, HB⟩ := hrel
    have hl4_2 := (Kd.R_reads' HO_4.out).1
    rw [hl4_2] at HO_4
    (try simp only [hl4_2])
    (try simp only [hl4_2] at BK159)
    cases gk with
    | zero => exact absurd HA.out (by simp [impl_planesWords.l0])
    | succ k2 =>
     have H := HA.out
     clear HA
     simp only [impl_planesWords.l0] at H
     by_cases c17 : x32_2 < (y161.length : Int)
     rotate_left
     ·
      rw [if_neg c17] at H
      have c17b0 : decide (x32_2 < (y161.length : Int)) = false := decide_eq_false c17
      (try rw [hl4_2] at c17b0)
      (try rw [hl7_3] at c17b0)
      clear c17
      replace H := Option.bind_eq_some_iff.mp H
      obtain ⟨⟨t172, t173, t176, t179⟩, A460, H⟩ := H
      replace H : (if t179 = true then ((slices_Equal_uint64_uint64.f k2 t173 l0_1).bind fun t181 => (if t181 = true then ((slices_Equal_uint64_uint64.f k2 t176 l0_2).bind fun t182 => (if t182 = true then (some (x4_2, true)) else (some (([] : List ByteArray), false)))) else (some (([] : List ByteArray), false)))) else (some (([] : List ByteArray), false))) = some (r1, r2) := H
      have A46 := Aside0.mk A460
      clear A460
      by_cases c47 : t179 = true
      rotate_left
      ·
       replace c47 := Bool.eq_false_iff.mpr c47
       subst c47
       have H1 : (some (([] : List ByteArray), false)) = some (r1, r2) := by rw [if_neg (show ¬ (false = true) by decide)] at H; exact H
       clear H
       have H := H1
       clear H1
       simp only [Option.some.injEq, Prod.mk.injEq] at H
       obtain ⟨rfl, rfl⟩ := H
       go_wp2_with (first | ((with_reducible refine gate_callee (f := 57) rfl ?_); refine goesL_ (some 72) rfl rfl Try.func57 (by kernel_rfl) rfl #[.slice Ao16 x4_2.length co16] rfl (by (try simp only [List.map_toArray, List.map_cons, List.map_nil]); rfl) ?_; (with_reducible refine (impl_planesOf.calls k2 _ _ x4_2 t172 t173 t176 false _ ?side1 ?side2 A46.out).mono ?_); (case side1 => repeat (exact (Kd.R_reads' HO_4.out).2.2)); (case side2 => exact (Kd.R_reads' HO_4.out).2.1); rintro e w73 ⟨v174, v177, rfl, ho0, ho1, hb⟩; refine ⟨_, rfl, ?_⟩; have n0_ := Aside0.mk (Kd.R_below (by (with_reducible repeat (first | apply Kd.R_alloc | apply Kd.R_drewN | apply Kd.R_drew)); exact HO_4.out) hb); have n1_ := Aside0.mk (Kd.R_lower ho0 (below_size (by repeat ((with_reducible exact HB.out))))); have n2_ := Aside0.mk (Kd.R_lower ho1 (below_size (by repeat ((with_reducible exact HB.out))))); have n3_ := Aside0.mk (blk_below (g := gb159) (o := .cells #[.int .i64 a0_0, .slice A0_1 l0_1.length c0_1, .slice A0_2 l0_2.length c0_2] 37 (0, 0)) (by (with_reducible repeat (first | refine blk_drewN ?_ _ | refine blk_drew ?_ | refine blk_alloc ?_ _)); exact BK159.out) hb); have n4_ := Aside0.mk (below_step (by repeat ((with_reducible exact HB.out))) hb); clear HO_4; clear BK159; clear HB; have HO_4 := n0_; have HO175 := n1_; have HO178 := n2_; have BK159 := n3_; have HB := n4_; clear n0_ n1_ n2_ n3_ n4_; (try clear hb); (try clear hb2); (try clear hk); (try clear hi); (try clear ho0); (try clear ho1)) | ((with_reducible refine gate_dst (N := 9) rfl ?_); (try (refine gate_guard (by rfl) ?_; dsimp only)); refine box_event ?hg (N := 9) ?hd (cs := #[.int .i64 0, .slice none 0 0, .slice none 0 0]) (t := 37) ?hr ?_; (case hd => rfl); (case hg => rfl); (case hr => (go_simp; done)); intro gb180 hg w74 hbox hb; have n0_ := Aside0.mk (Kd.R_below (by (with_reducible repeat (first | apply Kd.R_alloc | apply Kd.R_drewN | apply Kd.R_drew)); exact HO_4.out) hb); have n1_ := Aside0.mk (Kd.R_below (by (with_reducible repeat (first | apply Kd.R_alloc | apply Kd.R_drewN | apply Kd.R_drew)); exact HO175.out) hb); have n2_ := Aside0.mk (Kd.R_below (by (with_reducible repeat (first | apply Kd.R_alloc | apply Kd.R_drewN | apply Kd.R_drew)); exact HO178.out) hb); have n3_ := Aside0.mk (blk_below (g := gb159) (o := .cells #[.int .i64 a0_0, .slice A0_1 l0_1.length c0_1, .slice A0_2 l0_2.length c0_2] 37 (0, 0)) (by (with_reducible repeat (first | refine blk_drewN ?_ _ | refine blk_drew ?_ | refine blk_alloc ?_ _)); exact BK159.out) hb); have n4_ := Aside0.mk (below_step (by repeat ((with_reducible exact HB.out))) hb); have n5_ := Aside0.mk (hbox); have n6_ := Aside0.mk ((by rw [hg]; exact (below_size (by repeat ((with_reducible exact HB.out)))) : w.heap.size ≤ gb180)); have n7_ := Aside0.mk ((by rw [hg]; exact (below_size (by repeat ((with_reducible exact HB.out)))) : w.heap.size ≤ gb180)); have n8_ := Aside0.mk ((by rw [hg]; exact Nat.ne_of_lt (blk_lt (g := gb159) (o := .cells #[.int .i64 a0_0, .slice A0_1 l0_1.length c0_1, .slice A0_2 l0_2.length c0_2] 37 (0, 0)) (by (with_reducible repeat (first | refine blk_drewN ?_ _ | refine blk_drew ?_ | refine blk_alloc ?_ _)); exact BK159.out)) : gb159 ≠ gb180)); have n9_ := Aside0.mk ((by rw [hg]; exact Nat.ne_of_gt (blk_lt (g := gb159) (o := .cells #[.int .i64 a0_0, .slice A0_1 l0_1.length c0_1, .slice A0_2 l0_2.length c0_2] 37 (0, 0)) (by (with_reducible repeat (first | refine blk_drewN ?_ _ | refine blk_drew ?_ | refine blk_alloc ?_ _)); exact BK159.out)) : gb180 ≠ gb159)); clear HO_4; clear HO175; clear HO178; clear BK159; clear HB; have HO_4 := n0_; have HO175 := n1_; have HO178 := n2_; have BK159 := n3_; have HB := n4_; have BK180 := n5_; have GW180 := n6_; have GE180 := n7_; have NB159_180 := n8_; have NB180_159 := n9_; clear n0_ n1_ n2_ n3_ n4_ n5_ n6_ n7_ n8_ n9_; clear hb hbox hg; have hnb75 := NB180_159.out; have hnc75 := NB159_180.out; have hcz76_0 : w74.cell? ⟨gb180, 0, none⟩ = some (.int .i64 0) := b65_ BK180.out 0 rfl; have hcz76_1 : w74.cell? ⟨gb180, 1, none⟩ = some (.slice none 0 0) := b65_ BK180.out 1 rfl; have hcz76_2 : w74.cell? ⟨gb180, 2, none⟩ = some (.slice none 0 0) := b65_ BK180.out 2 rfl; have hfz76_0 := blk_frozen BK180.out 0; have hfz76_1 := blk_frozen BK180.out 1; have hfz76_2 := blk_frozen BK180.out 2; obtain ⟨Ao77, co77, eo77⟩ := Kd.R_slice HO175.out; subst eo77; obtain ⟨Ao78, co78, eo78⟩ := Kd.R_slice HO178.out; subst eo78))
       go_ret2
       exact ⟨_, by rfl, by exact Kd.R_nil _ _ _ _ _, by repeat ((with_reducible first | exact HB.out | refine below_set ?_ GE180.out))⟩
      subst c47
      have H1 : ((slices_Equal_uint64_uint64.f k2 t173 l0_1).bind fun t181 => (if t181 = true then ((slices_Equal_uint64_uint64.f k2 t176 l0_2).bind fun t182 => (if t182 = true then (some (x4_2, true)) else (some (([] : List ByteArray), false)))) else (some (([] : List ByteArray), false)))) = some (r1, r2) := by rw [if_pos rfl] at H; exact H
      clear H
      have H := H1
      clear H1
      replace H := Option.bind_eq_some_iff.mp H
      obtain ⟨t181, A480, H⟩ := H
      replace H : (if t181 = true then ((slices_Equal_uint64_uint64.f k2 t176 l0_2).bind fun t182 => (if t182 = true then (some (x4_2, true)) else (some (([] : List ByteArray), false)))) else (some (([] : List ByteArray), false))) = some (r1, r2) := H
      have A48 := Aside0.mk A480
      clear A480
      by_cases c49 : t181 = true
      rotate_left
      ·
       replace c49 := Bool.eq_false_iff.mpr c49
       subst c49
       have H1 : (some (([] : List ByteArray), false)) = some (r1, r2) := by rw [if_neg (show ¬ (false = true) by decide)] at H; exact H
       clear H
       have H := H1
       clear H1
       simp only [Option.some.injEq, Prod.mk.injEq] at H
       obtain ⟨rfl, rfl⟩ := H
       go_wp2_with (first | ((with_reducible refine gate_callee (f := 57) rfl ?_); refine goesL_ (some 72) rfl rfl Try.func57 (by kernel_rfl) rfl #[.slice Ao16 x4_2.length co16] rfl (by (try simp only [List.map_toArray, List.map_cons, List.map_nil]); rfl) ?_; (with_reducible refine (impl_planesOf.calls k2 _ _ x4_2 t172 t173 t176 true _ ?side1 ?side2 A46.out).mono ?_); (case side1 => repeat (exact (Kd.R_reads' HO_4.out).2.2)); (case side2 => exact (Kd.R_reads' HO_4.out).2.1); rintro e w66 ⟨v174, v177, rfl, ho0, ho1, hb⟩; refine ⟨_, rfl, ?_⟩; have n0_ := Aside0.mk (Kd.R_below (by (with_reducible repeat (first | apply Kd.R_alloc | apply Kd.R_drewN | apply Kd.R_drew)); exact HO_4.out) hb); have n1_ := Aside0.mk (Kd.R_lower ho0 (below_size (by repeat ((with_reducible exact HB.out))))); have n2_ := Aside0.mk (Kd.R_lower ho1 (below_size (by repeat ((with_reducible exact HB.out))))); have n3_ := Aside0.mk (blk_below (g := gb159) (o := .cells #[.int .i64 a0_0, .slice A0_1 l0_1.length c0_1, .slice A0_2 l0_2.length c0_2] 37 (0, 0)) (by (with_reducible repeat (first | refine blk_drewN ?_ _ | refine blk_drew ?_ | refine blk_alloc ?_ _)); exact BK159.out) hb); have n4_ := Aside0.mk (below_step (by repeat ((with_reducible exact HB.out))) hb); clear HO_4; clear BK159; clear HB; have HO_4 := n0_; have HO175 := n1_; have HO178 := n2_; have BK159 := n3_; have HB := n4_; clear n0_ n1_ n2_ n3_ n4_; (try clear hb); (try clear hb2); (try clear hk); (try clear hi); (try clear ho0); (try clear ho1)) | ((with_reducible refine gate_dst (N := 9) rfl ?_); (try (refine gate_guard (by rfl) ?_; dsimp only)); refine box_event ?hg (N := 9) ?hd (cs := #[.int .i64 0, .slice none 0 0, .slice none 0 0]) (t := 37) ?hr ?_; (case hd => rfl); (case hg => rfl); (case hr => (go_simp; done)); intro gb180 hg w67 hbox hb; have n0_ := Aside0.mk (Kd.R_below (by (with_reducible repeat (first | apply Kd.R_alloc | apply Kd.R_drewN | apply Kd.R_drew)); exact HO_4.out) hb); have n1_ := Aside0.mk (Kd.R_below (by (with_reducible repeat (first | apply Kd.R_alloc | apply Kd.R_drewN | apply Kd.R_drew)); exact HO175.out) hb); have n2_ := Aside0.mk (Kd.R_below (by (with_reducible repeat (first | apply Kd.R_alloc | apply Kd.R_drewN | apply Kd.R_drew)); exact HO178.out) hb); have n3_ := Aside0.mk (blk_below (g := gb159) (o := .cells #[.int .i64 a0_0, .slice A0_1 l0_1.length c0_1, .slice A0_2 l0_2.length c0_2] 37 (0, 0)) (by (with_reducible repeat (first | refine blk_drewN ?_ _ | refine blk_drew ?_ | refine blk_alloc ?_ _)); exact BK159.out) hb); have n4_ := Aside0.mk (below_step (by repeat ((with_reducible exact HB.out))) hb); have n5_ := Aside0.mk (hbox); have n6_ := Aside0.mk ((by rw [hg]; exact (below_size (by repeat ((with_reducible exact HB.out)))) : w.heap.size ≤ gb180)); have n7_ := Aside0.mk ((by rw [hg]; exact (below_size (by repeat ((with_reducible exact HB.out)))) : w.heap.size ≤ gb180)); have n8_ := Aside0.mk ((by rw [hg]; exact Nat.ne_of_lt (blk_lt (g := gb159) (o := .cells #[.int .i64 a0_0, .slice A0_1 l0_1.length c0_1, .slice A0_2 l0_2.length c0_2] 37 (0, 0)) (by (with_reducible repeat (first | refine blk_drewN ?_ _ | refine blk_drew ?_ | refine blk_alloc ?_ _)); exact BK159.out)) : gb159 ≠ gb180)); have n9_ := Aside0.mk ((by rw [hg]; exact Nat.ne_of_gt (blk_lt (g := gb159) (o := .cells #[.int .i64 a0_0, .slice A0_1 l0_1.length c0_1, .slice A0_2 l0_2.length c0_2] 37 (0, 0)) (by (with_reducible repeat (first | refine blk_drewN ?_ _ | refine blk_drew ?_ | refine blk_alloc ?_ _)); exact BK159.out)) : gb180 ≠ gb159)); clear HO_4; clear HO175; clear HO178; clear BK159; clear HB; have HO_4 := n0_; have HO175 := n1_; have HO178 := n2_; have BK159 := n3_; have HB := n4_; have BK180 := n5_; have GW180 := n6_; have GE180 := n7_; have NB159_180 := n8_; have NB180_159 := n9_; clear n0_ n1_ n2_ n3_ n4_ n5_ n6_ n7_ n8_ n9_; clear hb hbox hg; have hnb68 := NB180_159.out; have hnc68 := NB159_180.out; have hcz69_0 : w67.cell? ⟨gb180, 0, none⟩ = some (.int .i64 0) := b65_ BK180.out 0 rfl; have hcz69_1 : w67.cell? ⟨gb180, 1, none⟩ = some (.slice none 0 0) := b65_ BK180.out 1 rfl; have hcz69_2 : w67.cell? ⟨gb180, 2, none⟩ = some (.slice none 0 0) := b65_ BK180.out 2 rfl; have hfz69_0 := blk_frozen BK180.out 0; have hfz69_1 := blk_frozen BK180.out 1; have hfz69_2 := blk_frozen BK180.out 2; obtain ⟨Ao70, co70, eo70⟩ := Kd.R_slice HO175.out; subst eo70; obtain ⟨Ao71, co71, eo71⟩ := Kd.R_slice HO178.out; subst eo71; have hcz72_0 : w67.cell? ⟨gb159, 0, none⟩ = some (.int .i64 a0_0) := b65_ BK159.out 0 rfl; have hcz72_1 : w67.cell? ⟨gb159, 1, none⟩ = some (.slice A0_1 l0_1.length c0_1) := b65_ BK159.out 1 rfl; have hcz72_2 : w67.cell? ⟨gb159, 2, none⟩ = some (.slice A0_2 l0_2.length c0_2) := b65_ BK159.out 2 rfl; have hfz72_0 := blk_frozen BK159.out 0; have hfz72_1 := blk_frozen BK159.out 1; have hfz72_2 := blk_frozen BK159.out 2) | (go_at_call 76; (with_reducible refine (slices_Equal_uint64_uint64.calls k2 _ _ t173 _ _ l0_1 false _ ?side1 ?side2 ?side3 ?side4 A48.out).mono ?_); (case side1 => refine (Kd.R_reads' (e := 30) (base := w.heap.size) (ok := fun k_ => some k_ ≠ (.slice Ao71 t176.length co71 : Value).ownBlock) (n := t173.length) (c := co70) ?_).2.2; exact (by (with_reducible repeat (first | apply Kd.R_alloc | apply Kd.R_drewN | apply Kd.R_drew)); exact (Kd.R_mono (Kd.R_far (p := ⟨gb180, 2, none⟩) (Kd.R_far (p := ⟨gb180, 1, none⟩) (Kd.R_far (p := ⟨gb180, 0, none⟩) (Kd.R_types HO175.out BK180.out (by decide)) (fun _ hk => by exact hk.2) (.int .i64 t172)) (fun _ hk => by exact hk.2) (.slice Ao70 t173.length co70)) (fun _ hk => by exact hk.2) (.slice Ao71 t176.length co71)) (fun _ h_ => h_.1)))); (case side2 => exact (Kd.R_reads' HO175.out).2.1); (case side3 => exact Kd.C_below HR0_1.out (by repeat ((with_reducible first | exact HB.out | refine below_set ?_ GE180.out)))); (case side4 => exact HC0_1.out); rintro e w' ⟨rfl, ⟨nd, rfl⟩⟩))
       go_ret2
       exact ⟨_, by rfl, by exact Kd.R_nil _ _ _ _ _, by repeat ((with_reducible first | exact HB.out | apply pw_below_drewN | refine below_set ?_ GE180.out))⟩
      subst c49
      have H1 : ((slices_Equal_uint64_uint64.f k2 t176 l0_2).bind fun t182 => (if t182 = true then (some (x4_2, true)) else (some (([] : List ByteArray), false)))) = some (r1, r2) := by rw [if_pos rfl] at H; exact H
      clear H
      have H := H1
      clear H1
      replace H := Option.bind_eq_some_iff.mp H
      obtain ⟨t182, A500, H⟩ := H
      replace H : (if t182 = true then (some (x4_2, true)) else (some (([] : List ByteArray), false))) = some (r1, r2) := H
      have A50 := Aside0.mk A500
      clear A500
      by_cases c51 : t182 = true
      ·
       subst c51
       have H1 : (some (x4_2, true)) = some (r1, r2) := by rw [if_pos rfl] at H; exact H
       clear H
       have H := H1
       clear H1
       simp only [Option.some.injEq, Prod.mk.injEq] at H
       obtain ⟨rfl, rfl⟩ := H
       go_wp2_with (first | ((with_reducible refine gate_callee (f := 57) rfl ?_); refine goesL_ (some 72) rfl rfl Try.func57 (by kernel_rfl) rfl #[.slice Ao16 x4_2.length co16] rfl (by (try simp only [List.map_toArray, List.map_cons, List.map_nil]); rfl) ?_; (with_reducible refine (impl_planesOf.calls k2 _ _ x4_2 t172 t173 t176 true _ ?side1 ?side2 A46.out).mono ?_); (case side1 => repeat (exact (Kd.R_reads' HO_4.out).2.2)); (case side2 => exact (Kd.R_reads' HO_4.out).2.1); rintro e w52 ⟨v174, v177, rfl, ho0, ho1, hb⟩; refine ⟨_, rfl, ?_⟩; have n0_ := Aside0.mk (Kd.R_below (by (with_reducible repeat (first | apply Kd.R_alloc | apply Kd.R_drewN | apply Kd.R_drew)); exact HO_4.out) hb); have n1_ := Aside0.mk (Kd.R_lower ho0 (below_size (by repeat ((with_reducible exact HB.out))))); have n2_ := Aside0.mk (Kd.R_lower ho1 (below_size (by repeat ((with_reducible exact HB.out))))); have n3_ := Aside0.mk (blk_below (g := gb159) (o := .cells #[.int .i64 a0_0, .slice A0_1 l0_1.length c0_1, .slice A0_2 l0_2.length c0_2] 37 (0, 0)) (by (with_reducible repeat (first | refine blk_drewN ?_ _ | refine blk_drew ?_ | refine blk_alloc ?_ _)); exact BK159.out) hb); have n4_ := Aside0.mk (below_step (by repeat ((with_reducible exact HB.out))) hb); clear HO_4; clear BK159; clear HB; have HO_4 := n0_; have HO175 := n1_; have HO178 := n2_; have BK159 := n3_; have HB := n4_; clear n0_ n1_ n2_ n3_ n4_; (try clear hb); (try clear hb2); (try clear hk); (try clear hi); (try clear ho0); (try clear ho1)) | ((with_reducible refine gate_dst (N := 9) rfl ?_); (try (refine gate_guard (by rfl) ?_; dsimp only)); refine box_event ?hg (N := 9) ?hd (cs := #[.int .i64 0, .slice none 0 0, .slice none 0 0]) (t := 37) ?hr ?_; (case hd => rfl); (case hg => rfl); (case hr => (go_simp; done)); intro gb180 hg w53 hbox hb; have n0_ := Aside0.mk (Kd.R_below (by (with_reducible repeat (first | apply Kd.R_alloc | apply Kd.R_drewN | apply Kd.R_drew)); exact HO_4.out) hb); have n1_ := Aside0.mk (Kd.R_below (by (with_reducible repeat (first | apply Kd.R_alloc | apply Kd.R_drewN | apply Kd.R_drew)); exact HO175.out) hb); have n2_ := Aside0.mk (Kd.R_below (by (with_reducible repeat (first | apply Kd.R_alloc | apply Kd.R_drewN | apply Kd.R_drew)); exact HO178.out) hb); have n3_ := Aside0.mk (blk_below (g := gb159) (o := .cells #[.int .i64 a0_0, .slice A0_1 l0_1.length c0_1, .slice A0_2 l0_2.length c0_2] 37 (0, 0)) (by (with_reducible repeat (first | refine blk_drewN ?_ _ | refine blk_drew ?_ | refine blk_alloc ?_ _)); exact BK159.out) hb); have n4_ := Aside0.mk (below_step (by repeat ((with_reducible exact HB.out))) hb); have n5_ := Aside0.mk (hbox); have n6_ := Aside0.mk ((by rw [hg]; exact (below_size (by repeat ((with_reducible exact HB.out)))) : w.heap.size ≤ gb180)); have n7_ := Aside0.mk ((by rw [hg]; exact (below_size (by repeat ((with_reducible exact HB.out)))) : w.heap.size ≤ gb180)); have n8_ := Aside0.mk ((by rw [hg]; exact Nat.ne_of_lt (blk_lt (g := gb159) (o := .cells #[.int .i64 a0_0, .slice A0_1 l0_1.length c0_1, .slice A0_2 l0_2.length c0_2] 37 (0, 0)) (by (with_reducible repeat (first | refine blk_drewN ?_ _ | refine blk_drew ?_ | refine blk_alloc ?_ _)); exact BK159.out)) : gb159 ≠ gb180)); have n9_ := Aside0.mk ((by rw [hg]; exact Nat.ne_of_gt (blk_lt (g := gb159) (o := .cells #[.int .i64 a0_0, .slice A0_1 l0_1.length c0_1, .slice A0_2 l0_2.length c0_2] 37 (0, 0)) (by (with_reducible repeat (first | refine blk_drewN ?_ _ | refine blk_drew ?_ | refine blk_alloc ?_ _)); exact BK159.out)) : gb180 ≠ gb159)); clear HO_4; clear HO175; clear HO178; clear BK159; clear HB; have HO_4 := n0_; have HO175 := n1_; have HO178 := n2_; have BK159 := n3_; have HB := n4_; have BK180 := n5_; have GW180 := n6_; have GE180 := n7_; have NB159_180 := n8_; have NB180_159 := n9_; clear n0_ n1_ n2_ n3_ n4_ n5_ n6_ n7_ n8_ n9_; clear hb hbox hg; have hnb54 := NB180_159.out; have hnc54 := NB159_180.out; have hcz55_0 : w53.cell? ⟨gb180, 0, none⟩ = some (.int .i64 0) := b65_ BK180.out 0 rfl; have hcz55_1 : w53.cell? ⟨gb180, 1, none⟩ = some (.slice none 0 0) := b65_ BK180.out 1 rfl; have hcz55_2 : w53.cell? ⟨gb180, 2, none⟩ = some (.slice none 0 0) := b65_ BK180.out 2 rfl; have hfz55_0 := blk_frozen BK180.out 0; have hfz55_1 := blk_frozen BK180.out 1; have hfz55_2 := blk_frozen BK180.out 2; obtain ⟨Ao56, co56, eo56⟩ := Kd.R_slice HO175.out; subst eo56; obtain ⟨Ao57, co57, eo57⟩ := Kd.R_slice HO178.out; subst eo57; have hcz58_0 : w53.cell? ⟨gb159, 0, none⟩ = some (.int .i64 a0_0) := b65_ BK159.out 0 rfl; have hcz58_1 : w53.cell? ⟨gb159, 1, none⟩ = some (.slice A0_1 l0_1.length c0_1) := b65_ BK159.out 1 rfl; have hcz58_2 : w53.cell? ⟨gb159, 2, none⟩ = some (.slice A0_2 l0_2.length c0_2) := b65_ BK159.out 2 rfl; have hfz58_0 := blk_frozen BK159.out 0; have hfz58_1 := blk_frozen BK159.out 1; have hfz58_2 := blk_frozen BK159.out 2) | (go_at_call 76; (with_reducible refine (slices_Equal_uint64_uint64.calls k2 _ _ t173 _ _ l0_1 true _ ?side1 ?side2 ?side3 ?side4 A48.out).mono ?_); (case side1 => refine (Kd.R_reads' (e := 30) (base := w.heap.size) (ok := fun k_ => some k_ ≠ (.slice Ao57 t176.length co57 : Value).ownBlock) (n := t173.length) (c := co56) ?_).2.2; exact (by (with_reducible repeat (first | apply Kd.R_alloc | apply Kd.R_drewN | apply Kd.R_drew)); exact (Kd.R_mono (Kd.R_far (p := ⟨gb180, 2, none⟩) (Kd.R_far (p := ⟨gb180, 1, none⟩) (Kd.R_far (p := ⟨gb180, 0, none⟩) (Kd.R_types HO175.out BK180.out (by decide)) (fun _ hk => by exact hk.2) (.int .i64 t172)) (fun _ hk => by exact hk.2) (.slice Ao56 t173.length co56)) (fun _ hk => by exact hk.2) (.slice Ao57 t176.length co57)) (fun _ h_ => h_.1)))); (case side2 => exact (Kd.R_reads' HO175.out).2.1); (case side3 => exact Kd.C_below HR0_1.out (by repeat ((with_reducible first | exact HB.out | refine below_set ?_ GE180.out)))); (case side4 => exact HC0_1.out); rintro e w' ⟨rfl, ⟨nd, rfl⟩⟩) | (go_at_call 76; (with_reducible refine (slices_Equal_uint64_uint64.calls k2 _ _ t176 _ _ l0_2 true _ ?side1 ?side2 ?side3 ?side4 A50.out).mono ?_); (case side1 => refine (Kd.R_reads' (e := 30) (base := w.heap.size) (ok := fun k_ => some k_ ≠ (.slice Ao56 t173.length co56 : Value).ownBlock) (n := t176.length) (c := co57) ?_).2.2; exact (by (with_reducible repeat (apply Kd.R_drewN)); exact (Kd.R_mono (Kd.R_far (p := ⟨gb180, 2, none⟩) (Kd.R_far (p := ⟨gb180, 1, none⟩) (Kd.R_far (p := ⟨gb180, 0, none⟩) (Kd.R_types HO178.out BK180.out (by decide)) (fun _ hk => by exact hk.2) (.int .i64 t172)) (fun _ hk => by exact hk.2) (.slice Ao56 t173.length co56)) (fun _ hk => by exact hk.2) (.slice Ao57 t176.length co57)) (fun _ h_ => h_.1)))); (case side2 => exact (Kd.R_reads' HO178.out).2.1); (case side3 => exact Kd.C_below HR0_2.out (by repeat ((with_reducible first | exact HB.out | apply pw_below_drewN | refine below_set ?_ GE180.out)))); (case side4 => exact HC0_2.out); rintro e w' ⟨rfl, ⟨nd, rfl⟩⟩))
       go_ret2
       exact ⟨_, by rfl, by (with_reducible repeat (apply Kd.R_drewN)); exact Kd.R_mono (Kd.R_far (p := ⟨gb180, 2, none⟩) (Kd.R_far (p := ⟨gb180, 1, none⟩) (Kd.R_far (p := ⟨gb180, 0, none⟩) (Kd.R_types HO_4.out BK180.out (by decide)) (fun _ hk => by exact hk.2) (.int .i64 t172)) (fun _ hk => by exact hk.2) (.slice Ao56 t173.length co56)) (fun _ hk => by exact hk.2) (.slice Ao57 t176.length co57)) (fun _ hk => trivial), by repeat ((with_reducible first | exact HB.out | apply pw_below_drewN | refine below_set ?_ GE180.out))⟩
      replace c51 := Bool.eq_false_iff.mpr c51
      subst c51
      have H1 : (some (([] : List ByteArray), false)) = some (r1, r2) := by rw [if_neg (show ¬ (false = true) by decide)] at H; exact H
      clear H
      have H := H1
      clear H1
      simp only [Option.some.injEq, Prod.mk.injEq] at H
      obtain ⟨rfl, rfl⟩ := H
      go_wp2_with (first | ((with_reducible refine gate_callee (f := 57) rfl ?_); refine goesL_ (some 72) rfl rfl Try.func57 (by kernel_rfl) rfl #[.slice Ao16 x4_2.length co16] rfl (by (try simp only [List.map_toArray, List.map_cons, List.map_nil]); rfl) ?_; (with_reducible refine (impl_planesOf.calls k2 _ _ x4_2 t172 t173 t176 true _ ?side1 ?side2 A46.out).mono ?_); (case side1 => repeat (exact (Kd.R_reads' HO_4.out).2.2)); (case side2 => exact (Kd.R_reads' HO_4.out).2.1); rintro e w59 ⟨v174, v177, rfl, ho0, ho1, hb⟩; refine ⟨_, rfl, ?_⟩; have n0_ := Aside0.mk (Kd.R_below (by (with_reducible repeat (first | apply Kd.R_alloc | apply Kd.R_drewN | apply Kd.R_drew)); exact HO_4.out) hb); have n1_ := Aside0.mk (Kd.R_lower ho0 (below_size (by repeat ((with_reducible exact HB.out))))); have n2_ := Aside0.mk (Kd.R_lower ho1 (below_size (by repeat ((with_reducible exact HB.out))))); have n3_ := Aside0.mk (blk_below (g := gb159) (o := .cells #[.int .i64 a0_0, .slice A0_1 l0_1.length c0_1, .slice A0_2 l0_2.length c0_2] 37 (0, 0)) (by (with_reducible repeat (first | refine blk_drewN ?_ _ | refine blk_drew ?_ | refine blk_alloc ?_ _)); exact BK159.out) hb); have n4_ := Aside0.mk (below_step (by repeat ((with_reducible exact HB.out))) hb); clear HO_4; clear BK159; clear HB; have HO_4 := n0_; have HO175 := n1_; have HO178 := n2_; have BK159 := n3_; have HB := n4_; clear n0_ n1_ n2_ n3_ n4_; (try clear hb); (try clear hb2); (try clear hk); (try clear hi); (try clear ho0); (try clear ho1)) | ((with_reducible refine gate_dst (N := 9) rfl ?_); (try (refine gate_guard (by rfl) ?_; dsimp only)); refine box_event ?hg (N := 9) ?hd (cs := #[.int .i64 0, .slice none 0 0, .slice none 0 0]) (t := 37) ?hr ?_; (case hd => rfl); (case hg => rfl); (case hr => (go_simp; done)); intro gb180 hg w60 hbox hb; have n0_ := Aside0.mk (Kd.R_below (by (with_reducible repeat (first | apply Kd.R_alloc | apply Kd.R_drewN | apply Kd.R_drew)); exact HO_4.out) hb); have n1_ := Aside0.mk (Kd.R_below (by (with_reducible repeat (first | apply Kd.R_alloc | apply Kd.R_drewN | apply Kd.R_drew)); exact HO175.out) hb); have n2_ := Aside0.mk (Kd.R_below (by (with_reducible repeat (first | apply Kd.R_alloc | apply Kd.R_drewN | apply Kd.R_drew)); exact HO178.out) hb); have n3_ := Aside0.mk (blk_below (g := gb159) (o := .cells #[.int .i64 a0_0, .slice A0_1 l0_1.length c0_1, .slice A0_2 l0_2.length c0_2] 37 (0, 0)) (by (with_reducible repeat (first | refine blk_drewN ?_ _ | refine blk_drew ?_ | refine blk_alloc ?_ _)); exact BK159.out) hb); have n4_ := Aside0.mk (below_step (by repeat ((with_reducible exact HB.out))) hb); have n5_ := Aside0.mk (hbox); have n6_ := Aside0.mk ((by rw [hg]; exact (below_size (by repeat ((with_reducible exact HB.out)))) : w.heap.size ≤ gb180)); have n7_ := Aside0.mk ((by rw [hg]; exact (below_size (by repeat ((with_reducible exact HB.out)))) : w.heap.size ≤ gb180)); have n8_ := Aside0.mk ((by rw [hg]; exact Nat.ne_of_lt (blk_lt (g := gb159) (o := .cells #[.int .i64 a0_0, .slice A0_1 l0_1.length c0_1, .slice A0_2 l0_2.length c0_2] 37 (0, 0)) (by (with_reducible repeat (first | refine blk_drewN ?_ _ | refine blk_drew ?_ | refine blk_alloc ?_ _)); exact BK159.out)) : gb159 ≠ gb180)); have n9_ := Aside0.mk ((by rw [hg]; exact Nat.ne_of_gt (blk_lt (g := gb159) (o := .cells #[.int .i64 a0_0, .slice A0_1 l0_1.length c0_1, .slice A0_2 l0_2.length c0_2] 37 (0, 0)) (by (with_reducible repeat (first | refine blk_drewN ?_ _ | refine blk_drew ?_ | refine blk_alloc ?_ _)); exact BK159.out)) : gb180 ≠ gb159)); clear HO_4; clear HO175; clear HO178; clear BK159; clear HB; have HO_4 := n0_; have HO175 := n1_; have HO178 := n2_; have BK159 := n3_; have HB := n4_; have BK180 := n5_; have GW180 := n6_; have GE180 := n7_; have NB159_180 := n8_; have NB180_159 := n9_; clear n0_ n1_ n2_ n3_ n4_ n5_ n6_ n7_ n8_ n9_; clear hb hbox hg; have hnb61 := NB180_159.out; have hnc61 := NB159_180.out; have hcz62_0 : w60.cell? ⟨gb180, 0, none⟩ = some (.int .i64 0) := b65_ BK180.out 0 rfl; have hcz62_1 : w60.cell? ⟨gb180, 1, none⟩ = some (.slice none 0 0) := b65_ BK180.out 1 rfl; have hcz62_2 : w60.cell? ⟨gb180, 2, none⟩ = some (.slice none 0 0) := b65_ BK180.out 2 rfl; have hfz62_0 := blk_frozen BK180.out 0; have hfz62_1 := blk_frozen BK180.out 1; have hfz62_2 := blk_frozen BK180.out 2; obtain ⟨Ao63, co63, eo63⟩ := Kd.R_slice HO175.out; subst eo63; obtain ⟨Ao64, co64, eo64⟩ := Kd.R_slice HO178.out; subst eo64; have hcz65_0 : w60.cell? ⟨gb159, 0, none⟩ = some (.int .i64 a0_0) := b65_ BK159.out 0 rfl; have hcz65_1 : w60.cell? ⟨gb159, 1, none⟩ = some (.slice A0_1 l0_1.length c0_1) := b65_ BK159.out 1 rfl; have hcz65_2 : w60.cell? ⟨gb159, 2, none⟩ = some (.slice A0_2 l0_2.length c0_2) := b65_ BK159.out 2 rfl; have hfz65_0 := blk_frozen BK159.out 0; have hfz65_1 := blk_frozen BK159.out 1; have hfz65_2 := blk_frozen BK159.out 2) | (go_at_call 76; (with_reducible refine (slices_Equal_uint64_uint64.calls k2 _ _ t173 _ _ l0_1 true _ ?side1 ?side2 ?side3 ?side4 A48.out).mono ?_); (case side1 => refine (Kd.R_reads' (e := 30) (base := w.heap.size) (ok := fun k_ => some k_ ≠ (.slice Ao64 t176.length co64 : Value).ownBlock) (n := t173.length) (c := co63) ?_).2.2; exact (by (with_reducible repeat (first | apply Kd.R_alloc | apply Kd.R_drewN | apply Kd.R_drew)); exact (Kd.R_mono (Kd.R_far (p := ⟨gb180, 2, none⟩) (Kd.R_far (p := ⟨gb180, 1, none⟩) (Kd.R_far (p := ⟨gb180, 0, none⟩) (Kd.R_types HO175.out BK180.out (by decide)) (fun _ hk => by exact hk.2) (.int .i64 t172)) (fun _ hk => by exact hk.2) (.slice Ao63 t173.length co63)) (fun _ hk => by exact hk.2) (.slice Ao64 t176.length co64)) (fun _ h_ => h_.1)))); (case side2 => exact (Kd.R_reads' HO175.out).2.1); (case side3 => exact Kd.C_below HR0_1.out (by repeat ((with_reducible first | exact HB.out | refine below_set ?_ GE180.out)))); (case side4 => exact HC0_1.out); rintro e w' ⟨rfl, ⟨nd, rfl⟩⟩) | (go_at_call 76; (with_reducible refine (slices_Equal_uint64_uint64.calls k2 _ _ t176 _ _ l0_2 false _ ?side1 ?side2 ?side3 ?side4 A50.out).mono ?_); (case side1 => refine (Kd.R_reads' (e := 30) (base := w.heap.size) (ok := fun k_ => some k_ ≠ (.slice Ao63 t173.length co63 : Value).ownBlock) (n := t176.length) (c := co64) ?_).2.2; exact (by (with_reducible repeat (apply Kd.R_drewN)); exact (Kd.R_mono (Kd.R_far (p := ⟨gb180, 2, none⟩) (Kd.R_far (p := ⟨gb180, 1, none⟩) (Kd.R_far (p := ⟨gb180, 0, none⟩) (Kd.R_types HO178.out BK180.out (by decide)) (fun _ hk => by exact hk.2) (.int .i64 t172)) (fun _ hk => by exact hk.2) (.slice Ao63 t173.length co63)) (fun _ hk => by exact hk.2) (.slice Ao64 t176.length co64)) (fun _ h_ => h_.1)))); (case side2 => exact (Kd.R_reads' HO178.out).2.1); (case side3 => exact Kd.C_below HR0_2.out (by repeat ((with_reducible first | exact HB.out | apply pw_below_drewN | refine below_set ?_ GE180.out)))); (case side4 => exact HC0_2.out); rintro e w' ⟨rfl, ⟨nd, rfl⟩⟩))
      go_ret2
      exact ⟨_, by rfl, by exact Kd.R_nil _ _ _ _ _, by repeat ((with_reducible first | exact HB.out | apply pw_below_drewN | refine below_set ?_ GE180.out))⟩
     rw [if_pos c17] at H
     have c17b0 : decide (x32_2 < (y161.length : Int)) = true := decide_eq_true c17
     (try rw [hl4_2] at c17b0)
     (try rw [hl7_3] at c17b0)
     clear c17
     replace H := Option.bind_eq_some_iff.mp H
     obtain ⟨t164, A180, H⟩ := H
     replace H : (if t164 > 32 then (some (([] : List ByteArray), false)) else (if 0 ≤ t164 then (if (t164 : Int).toNat ≤ 281474976710656 then ((some (List.replicate (t164 : Int).toNat 0 : List Int)).bind fun y165 => (impl_planesWords.l1 k2 x4_2 x32_2 y165 (y161.length : Int) x32_2 (y165.length : Int) 0 a0_0 l0_1 l0_2)) else (none)) else (none))) = some (r1, r2) := H
     have A18 := Aside0.mk A180
     clear A180
     by_cases c19 : t164 > 32
     ·
      rw [if_pos c19] at H
      have c19b0 : decide (32 < t164) = true := decide_eq_true c19
      clear c19
      simp only [Option.some.injEq, Prod.mk.injEq] at H
      obtain ⟨rfl, rfl⟩ := H
      have hcz20_0 : wr.cell? ⟨gb159, 0, none⟩ = some (.int .i64 a0_0) := b65_ BK159.out 0 rfl
      have hcz20_1 : wr.cell? ⟨gb159, 1, none⟩ = some (.slice A0_1 l0_1.length c0_1) := b65_ BK159.out 1 rfl
      have hcz20_2 : wr.cell? ⟨gb159, 2, none⟩ = some (.slice A0_2 l0_2.length c0_2) := b65_ BK159.out 2 rfl
      have hfz20_0 := blk_frozen BK159.out 0
      have hfz20_1 := blk_frozen BK159.out 1
      have hfz20_2 := blk_frozen BK159.out 2
      go_wp2_with (((with_reducible refine gate_callee (f := 55) rfl ?_); refine goesL_ (some 38) rfl rfl Try.func55 (by kernel_rfl) rfl #[.slice A0_1 l0_1.length c0_1, .int .i64 x32_2] rfl (by (try simp only [List.map_toArray, List.map_cons, List.map_nil]); rfl) ?_; (with_reducible refine (impl_laneOf.calls k2 _ _ l0_1 x32_2 t164 _ ?side1 ?side2 A18.out).mono ?_); (case side1 => repeat (exact (Kd.C_below HR0_1.out HB.out))); (case side2 => exact HC0_1.out); rintro e w' ⟨rfl, ⟨nd, rfl⟩⟩; refine ⟨_, rfl, ?_⟩))
      go_ret2
      exact ⟨_, by rfl, by exact Kd.R_nil _ _ _ _ _, by repeat ((with_reducible first | exact HB.out | apply pw_below_drewN))⟩
     rw [if_neg c19] at H
     have c19b0 : decide (32 < t164) = false := decide_eq_false c19
     clear c19
     by_cases c21 : 0 ≤ t164
     rotate_left
     ·
      rw [if_neg c21] at H
      exact absurd H (by simp)
     rw [if_pos c21] at H
     have c21b0 := eq_true c21
     have c21b1 : decide (0 ≤ t164) = true := decide_eq_true c21
     clear c21
     by_cases c22 : (t164 : Int).toNat ≤ 281474976710656
     rotate_left
     ·
      rw [if_neg c22] at H
      exact absurd H (by simp)
     rw [if_pos c22] at H
     have c22b0 := eq_true c22
     have c22b1 : decide ((t164 : Int).toNat ≤ 281474976710656) = true := decide_eq_true c22
     clear c22
     obtain ⟨y165, hy165⟩ : ∃ y_ : List Int, y_ = (List.replicate (t164 : Int).toNat 0) := ⟨_, rfl⟩
     replace H : (impl_planesWords.l1 k2 x4_2 x32_2 y165 (y161.length : Int) x32_2 (y165.length : Int) 0 a0_0 l0_1 l0_2) = some (r1, r2) := by (have H2_ := (Option.bind_some _ _).symm.trans H; rw [hy165]; with_reducible exact H2_)
     have Ny165 := Aside0.mk hy165
     clear hy165
     have H' := Aside0.mk H
     clear H
     have hcz23_0 : wr.cell? ⟨gb159, 0, none⟩ = some (.int .i64 a0_0) := b65_ BK159.out 0 rfl
     have hcz23_1 : wr.cell? ⟨gb159, 1, none⟩ = some (.slice A0_1 l0_1.length c0_1) := b65_ BK159.out 1 rfl
     have hcz23_2 : wr.cell? ⟨gb159, 2, none⟩ = some (.slice A0_2 l0_2.length c0_2) := b65_ BK159.out 2 rfl
     have hfz23_0 := blk_frozen BK159.out 0
     have hfz23_1 := blk_frozen BK159.out 1
     have hfz23_2 := blk_frozen BK159.out 2
     go_wp2_with (first | ((with_reducible refine gate_callee (f := 55) rfl ?_); refine goesL_ (some 38) rfl rfl Try.func55 (by kernel_rfl) rfl #[.slice A0_1 l0_1.length c0_1, .int .i64 x32_2] rfl (by (try simp only [List.map_toArray, List.map_cons, List.map_nil]); rfl) ?_; (with_reducible refine (impl_laneOf.calls k2 _ _ l0_1 x32_2 t164 _ ?side1 ?side2 A18.out).mono ?_); (case side1 => repeat (exact (Kd.C_below HR0_1.out HB.out))); (case side2 => exact HC0_1.out); rintro e w' ⟨rfl, ⟨nd, rfl⟩⟩; refine ⟨_, rfl, ?_⟩) | ((with_reducible refine gate_dst (N := 42) rfl ?_); (try (refine gate_guard (by rfl) ?_; dsimp only)); refine Kd.R_make (Kd.int .u8) _ 5 rfl (N := 42) rfl 22 _ _ rfl t164 rfl rfl Try.underlying22 (.int .u8 0) 1 info5 rfl (by decide) (by omega) 0 (ok := fun _ => True) (okp := fun _ => True) rfl (fun _ hk => hk) trivial (of_decide_eq_true (by (with_reducible assumption))) (Nat.le_trans (Nat.mul_le_mul_right _ (of_decide_eq_true (by (with_reducible assumption)) : t164.toNat ≤ 281474976710656)) (by omega)) (Below.refl _ _) (Nat.le_refl _) ?_; intro v166 w24 ho25 hb hg_ hnew_; clear hg_ hnew_; (rw [← Ny165.out] at ho25); have n0_ := Aside0.mk (Kd.R_below (by (with_reducible repeat (apply Kd.R_drewN)); exact HO_4.out) hb); have n1_ := Aside0.mk (Kd.R_lower ho25 (below_size (by repeat ((with_reducible first | exact HB.out | apply pw_below_drewN))))); have n2_ := Aside0.mk (blk_below (g := gb159) (o := .cells #[.int .i64 a0_0, .slice A0_1 l0_1.length c0_1, .slice A0_2 l0_2.length c0_2] 37 (0, 0)) (by (with_reducible repeat (refine blk_drewN ?_ _)); exact BK159.out) hb); have n3_ := Aside0.mk (below_step (by repeat ((with_reducible first | exact HB.out | apply pw_below_drewN))) hb); clear HO_4; clear BK159; clear HB; have HO_4 := n0_; have HO167 := n1_; have BK159 := n2_; have HB := n3_; clear n0_ n1_ n2_ n3_; clear hb ho25; obtain ⟨Ao26, co26, eo26⟩ := Kd.R_slice HO167.out; subst eo26))
     go_loopg [45] k2 (fun kq v45 w' => ∃ (x7_3 : List Int) (x45_3 : Int), v45 = .int .i64 x45_3 ∧ Aside0 (impl_planesWords.l1 kq x4_2 x32_2 x7_3 (y161.length : Int) x32_2 (y165.length : Int) x45_3 a0_0 l0_1 l0_2 = some (r1, r2)) ∧ Aside0 (kq ≤ k2) ∧ Aside0 (Kd.R Kd.string 9 w' w.heap.size (fun _ => True) (.slice Ao16 x4_2.length co16) x4_2) ∧ Aside0 (Kd.R (Kd.int .u8) 5 w' w.heap.size (fun _ => True) (.slice Ao26 y165.length co26) x7_3) ∧ Aside0 (w'.heap[gb159]? = some (.cells #[.int .i64 a0_0, (.slice A0_1 l0_1.length c0_1), (.slice A0_2 l0_2.length c0_2)] 37 (0, 0))) ∧ Aside0 (Below w.heap.size w w'))
     case atStart => exact ⟨(y165), (0), (by rfl), H', ⟨Nat.le_refl _⟩, ⟨by (try simp only [hl4_2]); (with_reducible repeat (first | apply Kd.R_alloc | apply Kd.R_drewN | apply Kd.R_drew)); exact HO_4.out⟩, ⟨by (try simp only [hl4_2]); (with_reducible repeat (first | apply Kd.R_alloc | apply Kd.R_drewN | apply Kd.R_drew)); exact HO167.out⟩, ⟨by (try simp only [hl4_2]); (with_reducible repeat (first | refine blk_drewN ?_ _ | refine blk_drew ?_ | refine blk_alloc ?_ _)); exact BK159.out⟩, ⟨by repeat ((with_reducible exact HB.out))⟩⟩
     case round =>
      clear H'
      try clear c1
      try clear c2
      try clear p2
      try clear c5
      try clear c6
      try clear c6b0
      try clear c6b1
      try clear c10
      try clear c11
      try clear c11b0
      try clear c11b1
      try clear c12
      try clear c12b0
      try clear c12b1
      try clear c17
      try clear c17b0
      try clear c19
      try clear c19b0
      try clear c21
      try clear c21b0
      try clear c21b1
      try clear c22
      try clear c22b0
      try clear c22b1
      try clear hcz13_0
      try clear hcz13_1
      try clear hcz13_2
      try clear hcz20_0
      try clear hcz20_1
      try clear hcz20_2
      try clear hcz23_0
      try clear hcz23_1
      try clear hcz23_2
      try clear hcz7_0
      try clear hcz7_1
      try clear hcz7_2
      try clear hcz8_0
      try clear hcz8_1
      try clear hcz8_2
      try clear hcz9_0
      try clear hcz9_1
      try clear hcz9_2
      try clear hfz13_0
      try clear hfz13_1
      try clear hfz13_2
      try clear hfz20_0
      try clear hfz20_1
      try clear hfz20_2
      try clear hfz23_0
      try clear hfz23_1
      try clear hfz23_2
      try clear hfz7_0
      try clear hfz7_1
      try clear hfz7_2
      try clear hfz8_0
      try clear hfz8_1
      try clear hfz8_2
      try clear hfz9_0
      try clear hfz9_1
      try clear hfz9_2
      try clear p2
      obtain ⟨x7_3, x45_3, rfl, HA, HK3, HO_4, HO_7, BK159, HB⟩ := hrel
      have hl7_3 := (Kd.R_reads' HO_7.out).1
      rw [hl7_3] at HO_7
      (try simp only [hl7_3])
      (try simp only [hl7_3] at BK159)
      (try simp only [hl7_3] at HO_4)
      cases gk with
      | zero => exact absurd HA.out (by simp [impl_planesWords.l1])
      | succ k3 =>
       have H := HA.out
       clear HA
       simp only [impl_planesWords.l1] at H
       by_cases c27 : x45_3 < (y165.length : Int)
       rotate_left
       ·
        rw [if_neg c27] at H
        have c27b0 : decide (x45_3 < (y165.length : Int)) = false := decide_eq_false c27
        (try rw [hl4_2] at c27b0)
        (try rw [hl7_3] at c27b0)
        clear c27
        by_cases c40 : 0 ≤ x32_2
        rotate_left
        ·
         rw [if_neg c40] at H
         exact absurd H (by simp)
        rw [if_pos c40] at H
        have c40b0 : decide (0 ≤ x32_2) = true := decide_eq_true c40
        clear c40
        by_cases c41 : x32_2 < (x4_2.length : Int)
        rotate_left
        ·
         rw [if_neg c41] at H
         exact absurd H (by simp)
        rw [if_pos c41] at H
        have c41b0 : decide (x32_2 < (x4_2.length : Int)) = true := decide_eq_true c41
        (try rw [hl4_2] at c41b0)
        (try rw [hl7_3] at c41b0)
        clear c41
        obtain ⟨y171, hy171⟩ : ∃ y_ : List ByteArray, y_ = (x4_2.set (x32_2 : Int).toNat (strOfNums x7_3)) := ⟨_, rfl⟩
        replace H : (impl_planesWords.l0 k3 y171 (y161.length : Int) (wrap64 (x32_2 + 1)) a0_0 l0_1 l0_2) = some (r1, r2) := by (rw [hy171]; with_reducible exact H)
        have Ny171 := Aside0.mk hy171
        clear hy171
        have H' := Aside0.mk H
        clear H
        have hcv43 := own_string (P := Try.prog) Try.underlying22 Try.underlying5 Try.underlying9 (Kd.own_of_R HO_7.out)
        have p42 : 0 ≤ (x32_2 : Int) := of_decide_eq_true (by (with_reducible assumption))
        have q42 : (x32_2 : Int) < ((x4_2.length : Int) : Int) := of_decide_eq_true (by (with_reducible assumption))
        obtain ⟨go42, co42, eo42, gb42, gl42, cl42, HG42⟩ := Kd.R_form HO_4.out (by omega)
        (cases eo42)
        have GB42 := Aside0.mk gb42
        have GG42 := Aside0.mk HG42
        clear gb42 gl42 HG42
        obtain ⟨hx42_0, hf42_0⟩ := Kd.R_celln (⟨#[]⟩ : ByteArray) HO_4.out (x32_2 : Int) p42 q42
        replace p42 := eq_true p42
        replace q42 := eq_true q42
        have HP44 := Kd.R_putg HO_4.out (x32_2 : Int) (strOfNums x7_3)
        go_wp2_with (((with_reducible refine gate_store (t := 9) (p := 68) rfl ?_); refine store_event (t := 9) (p := 68) (v := ?vo_w45) (w1 := (wr.setCell ⟨go42, (x32_2 : Int).toNat, none⟩ (.string (strOfNums x7_3)))) ?hg ?ho ?hn ?hr ?_; (case ho => rfl); (case hg => rfl); (case hn => rfl); (case hr => (go_simp; done)); intro w45 hw; have hg : wr.grownBy w45 (some go42) := (by rw [hw]; exact HP44.2); have hp_ : Kd.R Kd.string 9 w45 w.heap.size (fun _ => True) (.slice (some ⟨go42, 0, none⟩) x4_2.length co16) y171 := (by rw [hw, Ny171.out]; exact HP44.1); clear HP44; have n0_ := Aside0.mk (hp_); have n1_ := Aside0.mk (Kd.R_over' (v := (.slice (some ⟨go42, 0, none⟩) x4_2.length co16)) (by (with_reducible repeat (first | apply Kd.R_alloc | apply Kd.R_drewN | apply Kd.R_drew)); exact HO_7.out) (Kd.R_typed HO_4.out) (by decide) hg); have n2_ := Aside0.mk (blk_grown (g := gb159) (o := .cells #[.int .i64 a0_0, .slice A0_1 l0_1.length c0_1, .slice A0_2 l0_2.length c0_2] 37 (0, 0)) (by (with_reducible repeat (first | refine blk_drewN ?_ _ | refine blk_drew ?_ | refine blk_alloc ?_ _)); exact BK159.out) hg (Kd.R_ne HO_4.out BK159.out (by decide))); have n3_ := Aside0.mk ((by rw [hw]; exact below_set (HB.out) GB42.out : Below w.heap.size w w45)); clear HO_4; clear HO_7; clear BK159; clear HB; have HO_4 := n0_; have HO_7 := n1_; have BK159 := n2_; have HB := n3_; clear n0_ n1_ n2_ n3_; clear hg hw hp_))
        (try simp only [← hl4_2, ← hl7_3])
        go_roundg k3
        case measure => have := HJ1.out; have := HK2.out; have := HK3.out; omega
        case rel => exact ⟨(y171), (wrap64 (x32_2 + 1)), (by rfl), H', ⟨by have := HJ1.out; have := HK2.out; have := HK3.out; omega⟩, ⟨by (try simp only [hl4_2]); (try simp only [hl7_3]); (with_reducible repeat (first | apply Kd.R_alloc | apply Kd.R_drewN | apply Kd.R_drew)); exact HO_4.out⟩, ⟨by (try simp only [hl4_2]); (try simp only [hl7_3]); (with_reducible repeat (first | refine blk_drewN ?_ _ | refine blk_drew ?_ | refine blk_alloc ?_ _)); exact BK159.out⟩, ⟨by repeat ((with_reducible exact HB.out))⟩⟩
       rw [if_pos c27] at H
       have c27b0 : decide (x45_3 < (y165.length : Int)) = true := decide_eq_true c27
       (try rw [hl4_2] at c27b0)
       (try rw [hl7_3] at c27b0)
       clear c27
       obtain ⟨ji28, hji28⟩ : ∃ j_ : Int, (wrap64 (5 * x45_3)) = j_ := ⟨_, rfl⟩
       replace H : (if 0 ≤ (ji28) then (if (ji28) ≤ (wrap64 ((ji28) + 5)) then (if (wrap64 ((ji28) + 5)) ≤ (l0_2.length : Int) then ((impl_laneOf.f k3 ((l0_2.take ((wrap64 ((ji28) + 5)) : Int).toNat).drop ((ji28) : Int).toNat) x32_2).bind fun t169 => (if 0 ≤ x45_3 then (if x45_3 < (x7_3.length : Int) then (impl_planesWords.l1 k3 x4_2 x32_2 (x7_3.set (x45_3 : Int).toNat ((wrap64 (96 + t169)) % 256)) (y161.length : Int) x32_2 (y165.length : Int) (wrap64 (x45_3 + 1)) a0_0 l0_1 l0_2) else (none)) else (none))) else (none)) else (none)) else (none)) = some (r1, r2) := by (rw [hji28] at H; exact H)
       have hji28w : (IntKind.i64.wrap (5 * x45_3)) = ji28 := (i64_w _).trans hji28
       by_cases c29 : 0 ≤ (ji28)
       rotate_left
       ·
        rw [if_neg c29] at H
        exact absurd H (by simp)
       rw [if_pos c29] at H
       have c29b0 := eq_true c29
       have c29b1 : decide (0 ≤ (ji28)) = true := decide_eq_true c29
       clear c29
       by_cases c30 : (ji28) ≤ (wrap64 ((ji28) + 5))
       rotate_left
       ·
        rw [if_neg c30] at H
        exact absurd H (by simp)
       rw [if_pos c30] at H
       have c30b0 := eq_true c30
       have c30b1 : decide ((ji28) ≤ (wrap64 ((ji28) + 5))) = true := decide_eq_true c30
       by_cases c31 : (wrap64 ((ji28) + 5)) ≤ (l0_2.length : Int)
       rotate_left
       ·
        rw [if_neg c31] at H
        exact absurd H (by simp)
       rw [if_pos c31] at H
       have c31b0 := eq_true c31
       have c31b1 : decide ((wrap64 ((ji28) + 5)) ≤ (l0_2.length : Int)) = true := decide_eq_true c31
       (try rw [hl4_2] at c31b1)
       (try rw [hl7_3] at c31b1)
       replace H := Option.bind_eq_some_iff.mp H
       obtain ⟨t169, A320, H⟩ := H
       replace H : (if 0 ≤ x45_3 then (if x45_3 < (x7_3.length : Int) then (impl_planesWords.l1 k3 x4_2 x32_2 (x7_3.set (x45_3 : Int).toNat ((wrap64 (96 + t169)) % 256)) (y161.length : Int) x32_2 (y165.length : Int) (wrap64 (x45_3 + 1)) a0_0 l0_1 l0_2) else (none)) else (none)) = some (r1, r2) := H
       have A32 := Aside0.mk A320
       clear A320
       by_cases c33 : 0 ≤ x45_3
       rotate_left
       ·
        rw [if_neg c33] at H
        exact absurd H (by simp)
       rw [if_pos c33] at H
       have c33b0 : decide (0 ≤ x45_3) = true := decide_eq_true c33
       clear c33
       by_cases c34 : x45_3 < (x7_3.length : Int)
       rotate_left
       ·
        rw [if_neg c34] at H
        exact absurd H (by simp)
       rw [if_pos c34] at H
       have c34b0 : decide (x45_3 < (x7_3.length : Int)) = true := decide_eq_true c34
       (try rw [hl4_2] at c34b0)
       (try rw [hl7_3] at c34b0)
       clear c34
       obtain ⟨y170, hy170⟩ : ∃ y_ : List Int, y_ = (x7_3.set (x45_3 : Int).toNat ((wrap64 (96 + t169)) % 256)) := ⟨_, rfl⟩
       replace H : (impl_planesWords.l1 k3 x4_2 x32_2 y170 (y161.length : Int) x32_2 (y165.length : Int) (wrap64 (x45_3 + 1)) a0_0 l0_1 l0_2) = some (r1, r2) := by (rw [hy170]; with_reducible exact H)
       have Ny170 := Aside0.mk hy170
       clear hy170
       have H' := Aside0.mk H
       clear H
       have hcz36_0 : wr.cell? ⟨gb159, 0, none⟩ = some (.int .i64 a0_0) := b65_ BK159.out 0 rfl
       have hcz36_1 : wr.cell? ⟨gb159, 1, none⟩ = some (.slice A0_1 l0_1.length c0_1) := b65_ BK159.out 1 rfl
       have hcz36_2 : wr.cell? ⟨gb159, 2, none⟩ = some (.slice A0_2 l0_2.length c0_2) := b65_ BK159.out 2 rfl
       have hfz36_0 := blk_frozen BK159.out 0
       have hfz36_1 := blk_frozen BK159.out 1
       have hfz36_2 := blk_frozen BK159.out 2
       obtain ⟨i037, hi037, _, hsz37, _⟩ := info_parts info30
       obtain ⟨A37, hcut37, hA37, hC37⟩ := print_mid_of (P := Try.prog) (Value.int .u64) 0 27 30 .i64 .i64 Try.underlying27 hi037 hsz37 A0_2 c0_2 l0_2 (ji28) (wrap64 ((ji28) + 5)) (of_decide_eq_true (by (with_reducible assumption))) (by omega) (of_decide_eq_true (by (with_reducible assumption))) HC0_2.out
       have HR168 := Aside0.mk (Kd.C_of_reads (h1 := fun _ => rfl) (hA37 _ (Kd.reads_of_C HR0_2.out)))
       have HC168 := Aside0.mk hC37
       clear hA37 hC37 hi037 hsz37
       go_wp2_with (first | ((with_reducible refine gate_callee (f := 55) rfl ?_); refine goesL_ (some 59) rfl rfl Try.func55 (by kernel_rfl) rfl #[.slice A37 ((l0_2.take ((wrap64 ((ji28) + 5)) : Int).toNat).drop ((ji28) : Int).toNat).length (c0_2 - (ji28).toNat), .int .i64 x32_2] rfl (by (try simp only [List.map_toArray, List.map_cons, List.map_nil]); (rw [show ((l0_2.take ((wrap64 ((ji28) + 5)) : Int).toNat).drop ((ji28) : Int).toNat).length = ((wrap64 ((ji28) + 5)).toNat - (ji28).toNat) from (by rw [List.length_drop, List.length_take]; have h_ : ((wrap64 ((ji28) + 5)) : Int) ≤ (l0_2.length : Int) := of_decide_eq_true (by (with_reducible assumption)); omega)] <;> rfl)) ?_; (with_reducible refine (impl_laneOf.calls k3 _ _ ((l0_2.take ((wrap64 ((ji28) + 5)) : Int).toNat).drop ((ji28) : Int).toNat) x32_2 t169 _ ?side1 ?side2 A32.out).mono ?_); (case side1 => repeat (exact (Kd.C_below HR168.out HB.out))); (case side2 => exact HC168.out); rintro e w' ⟨rfl, ⟨nd, rfl⟩⟩; refine ⟨_, rfl, ?_⟩; (try (rw [drewN_self wr]; generalize hq_ : World.drewN wr _ = wr; have n0_ : Aside0 (Kd.R Kd.string 9 wr w.heap.size (fun _ => True) (.slice Ao16 x4_2.length co16) x4_2) := ⟨by rw [← hq_]; exact (by (with_reducible repeat (apply Kd.R_drewN)); exact HO_4.out)⟩; have n1_ : Aside0 (Kd.R (Kd.int .u8) 5 wr w.heap.size (fun _ => True) (.slice Ao26 x7_3.length co26) x7_3) := ⟨by rw [← hq_]; exact (by (with_reducible repeat (apply Kd.R_drewN)); exact HO_7.out)⟩; have n2_ : Aside0 (wr.heap[gb159]? = some (.cells #[.int .i64 a0_0, .slice A0_1 l0_1.length c0_1, .slice A0_2 l0_2.length c0_2] 37 (0, 0))) := ⟨by rw [← hq_]; exact (by (with_reducible repeat (refine blk_drewN ?_ _)); exact BK159.out)⟩; have n3_ : Aside0 (Below w.heap.size w wr) := ⟨by rw [← hq_]; exact (by repeat ((with_reducible first | exact HB.out | apply pw_below_drewN)))⟩; clear HO_4 HO_7 BK159 HB hq_; have HO_4 := n0_; have HO_7 := n1_; have BK159 := n2_; have HB := n3_; clear n0_ n1_ n2_ n3_)); have p35 : 0 ≤ (x45_3 : Int) := of_decide_eq_true (by (with_reducible assumption)); have q35 : (x45_3 : Int) < ((x7_3.length : Int) : Int) := of_decide_eq_true (by (with_reducible assumption)); obtain ⟨go35, co35, eo35, gb35, gl35, cl35, HG35⟩ := Kd.R_form HO_7.out (by omega); (cases eo35); have GB35 := Aside0.mk gb35; have GG35 := Aside0.mk HG35; clear gb35 gl35 HG35; obtain ⟨hx35_0, hf35_0⟩ := Kd.R_celln 0 HO_7.out (x45_3 : Int) p35 q35; replace p35 := eq_true p35; replace q35 := eq_true q35; obtain ⟨hy38_, hz38_⟩ := Kd.R_celln 0 HO_7.out (x45_3 : Int) (of_decide_eq_true (by (with_reducible assumption))) (of_decide_eq_true (by (with_reducible assumption))); have HP38 := Kd.R_putg HO_7.out (x45_3 : Int) ((wrap64 (96 + t169)) % 256)) | ((with_reducible refine gate_store (t := 5) (p := 62) rfl ?_); refine store_event (t := 5) (p := 62) (v := ?vo_w39) (w1 := (wr.setCell ⟨go35, (x45_3 : Int).toNat, none⟩ (.int .u8 ((wrap64 (96 + t169)) % 256)))) ?hg ?ho ?hn ?hr ?_; (case ho => rfl); (case hg => rfl); (case hn => rfl); (case hr => (go_simp; done)); intro w39 hw; have hg : wr.grownBy w39 (some go35) := (by rw [hw]; exact HP38.2); have hp_ : Kd.R (Kd.int .u8) 5 w39 w.heap.size (fun _ => True) (.slice (some ⟨go35, 0, none⟩) x7_3.length co26) y170 := (by rw [hw, Ny170.out]; exact HP38.1); clear HP38; have n0_ := Aside0.mk (Kd.R_over' (v := (.slice (some ⟨go35, 0, none⟩) x7_3.length co26)) (by (with_reducible repeat (first | apply Kd.R_alloc | apply Kd.R_drewN | apply Kd.R_drew)); exact HO_4.out) (Kd.R_typed HO_7.out) (by decide) hg); have n1_ := Aside0.mk (hp_); have n2_ := Aside0.mk (blk_grown (g := gb159) (o := .cells #[.int .i64 a0_0, .slice A0_1 l0_1.length c0_1, .slice A0_2 l0_2.length c0_2] 37 (0, 0)) (by (with_reducible repeat (first | refine blk_drewN ?_ _ | refine blk_drew ?_ | refine blk_alloc ?_ _)); exact BK159.out) hg (Kd.R_ne HO_7.out BK159.out (by decide))); have n3_ := Aside0.mk ((by rw [hw]; exact below_set (HB.out) GB35.out : Below w.heap.size w w39)); clear HO_4; clear HO_7; clear BK159; clear HB; have HO_4 := n0_; have HO_7 := n1_; have BK159 := n2_; have HB := n3_; clear n0_ n1_ n2_ n3_; clear hg hw hp_))
       (try simp only [← hl7_3])
       go_roundg k3
       case measure => have := HJ1.out; have := HK2.out; have := HK3.out; omega
       case rel => exact ⟨(y170), (wrap64 (x45_3 + 1)), (by rfl), H', ⟨by have := HJ1.out; have := HK2.out; have := HK3.out; omega⟩, ⟨by (try simp only [hl4_2]); (try simp only [hl7_3]); (with_reducible repeat (first | apply Kd.R_alloc | apply Kd.R_drewN | apply Kd.R_drew)); exact HO_4.out⟩, ⟨by (try simp only [hl4_2]); (try simp only [hl7_3]); (with_reducible repeat (first | apply Kd.R_alloc | apply Kd.R_drewN | apply Kd.R_drew)); exact HO_7.out⟩, ⟨by (try simp only [hl4_2]); (try simp only [hl7_3]); (with_reducible repeat (first | refine blk_drewN ?_ _ | refine blk_drew ?_ | refine blk_alloc ?_ _)); exact BK159.out⟩, ⟨by repeat ((with_reducible exact HB.out))⟩⟩

/-! ### impl_PlanesOk: function 29 -/
def impl_PlanesOk.f (k : Nat) (a0_0 : Int) (l0_1 : List Int) (l0_2 : List Int) : Option (Bool) := (impl_planesWords.f k a0_0 l0_1 l0_2).bind fun bt184 => (some bt184.2)
theorem impl_PlanesOk.mono : ∀ a0 a1 a2 k, LeO (impl_PlanesOk.f k a0 a1 a2) (impl_PlanesOk.f (k + 1) a0 a1 a2) := by
  intro a0 a1 a2 k
  unfold impl_PlanesOk.f
  repeat' first | (with_reducible exact impl_planesWords.mono _ _ _ _) | (with_reducible exact LeO.refl _) | (with_reducible refine LeO.bind ?_ (fun _ => ?_))
set_option maxHeartbeats 8000000 in
set_option maxRecDepth 100000 in
theorem impl_PlanesOk.calls (k : Nat) (a0_0 : Int) (A0_1 : Option Addr) (c0_1 : Nat) (l0_1 : List Int) (A0_2 : Option Addr) (c0_2 : Nat) (l0_2 : List Int) (r : Bool) (w : World) (hr0_1 : Kd.C (Kd.int .u64) w A0_1 l0_1.length l0_1) (hc0_1 : l0_1.length ≤ c0_1) (hr0_2 : Kd.C (Kd.int .u64) w A0_2 l0_2.length l0_2) (hc0_2 : l0_2.length ≤ c0_2) (h : impl_PlanesOk.f k a0_0 l0_1 l0_2 = some r) :
    Calls Try.prog 29 #[.agg #[.int .i64 a0_0, .slice A0_1 l0_1.length c0_1, .slice A0_2 l0_2.length c0_2]] w fun e w' => e = .returned (.bool r) ∧ Below w.heap.size w w' := by
  have hu37 := Try.underlying37
  have HR0_1 := Aside0.mk hr0_1
  have HC0_1 := Aside0.mk hc0_1
  clear hr0_1 hc0_1
  have HR0_2 := Aside0.mk hr0_2
  have HC0_2 := Aside0.mk hc0_2
  clear hr0_2 hc0_2
  have HB := Aside0.mk (Below.refl w.heap.size w)
  have H : ((impl_planesWords.f k a0_0 l0_1 l0_2).bind fun bt184 => (some bt184.2)) = some r := h
  clear h
  replace H := Option.bind_eq_some_iff.mp H
  obtain ⟨⟨t184, t187⟩, A20, H⟩ := H
  replace H : (some t187) = some r := H
  have A2 := Aside0.mk A20
  clear A20
  obtain rfl := Option.some.inj H
  go_enter Try.func29, Try.ntmps29
  go_wp2_with (first | ((with_reducible refine gate_dst (N := 1) rfl ?_); refine box_event ?hg (N := 1) ?hd (cs := #[.int .i64 a0_0, .slice A0_1 l0_1.length c0_1, .slice A0_2 l0_2.length c0_2]) (t := 37) ?hr ?_; (case hd => rfl); (case hg => rfl); (case hr => (go_simp; done)); intro gb183 hg w3 hbox hb; have n0_ := Aside0.mk (below_step (by repeat ((with_reducible exact HB.out))) hb); have n1_ := Aside0.mk (hbox); have n2_ := Aside0.mk ((by rw [hg]; exact (below_size (by repeat ((with_reducible exact HB.out)))) : w.heap.size ≤ gb183)); have n3_ := Aside0.mk ((by rw [hg]; exact (below_size (by repeat ((with_reducible exact HB.out)))) : w.heap.size ≤ gb183)); clear HB; have HB := n0_; have BK183 := n1_; have GW183 := n2_; have GE183 := n3_; clear n0_ n1_ n2_ n3_; clear hb hbox hg; have hcz4_0 : w3.cell? ⟨gb183, 0, none⟩ = some (.int .i64 a0_0) := (blk_cell BK183.out 0).trans rfl; have hcz4_1 : w3.cell? ⟨gb183, 1, none⟩ = some (.slice A0_1 l0_1.length c0_1) := (blk_cell BK183.out 1).trans rfl; have hcz4_2 : w3.cell? ⟨gb183, 2, none⟩ = some (.slice A0_2 l0_2.length c0_2) := (blk_cell BK183.out 2).trans rfl; have hfz4_0 := blk_frozen BK183.out 0; have hfz4_1 := blk_frozen BK183.out 1; have hfz4_2 := blk_frozen BK183.out 2) | ((with_reducible refine gate_callee (f := 65) rfl ?_); refine goesL_ (some 7) rfl rfl Try.func65 (by kernel_rfl) rfl #[.agg #[.int .i64 a0_0, .slice A0_1 l0_1.length c0_1, .slice A0_2 l0_2.length c0_2]] rfl (by (try simp only [List.map_toArray, List.map_cons, List.map_nil]); rfl) ?_; (with_reducible refine (impl_planesWords.calls k a0_0 _ _ l0_1 _ _ l0_2 t184 t187 _ ?side1 ?side2 ?side3 ?side4 A2.out).mono ?_); (case side1 => repeat (exact (Kd.C_below HR0_1.out HB.out))); (case side2 => exact HC0_1.out); (case side3 => repeat (exact (Kd.C_below HR0_2.out HB.out))); (case side4 => exact HC0_2.out); rintro e w5 ⟨v185, rfl, ho0, hb⟩; refine ⟨_, rfl, ?_⟩; have n0_ := Aside0.mk (Kd.R_lower ho0 (below_size (by repeat ((with_reducible exact HB.out))))); have n1_ := Aside0.mk (blk_below (g := gb183) (o := .cells #[.int .i64 a0_0, .slice A0_1 l0_1.length c0_1, .slice A0_2 l0_2.length c0_2] 37 (0, 0)) (by (with_reducible repeat (first | refine blk_drewN ?_ _ | refine blk_drew ?_ | refine blk_alloc ?_ _)); exact BK183.out) hb); have n2_ := Aside0.mk (below_step (by repeat ((with_reducible exact HB.out))) hb); clear BK183; clear HB; have HO186 := n0_; have BK183 := n1_; have HB := n2_; clear n0_ n1_ n2_; (try clear hb); (try clear hb2); (try clear hk); (try clear hi); (try clear ho0)))
  go_ret
  exact ⟨by rfl, by repeat ((with_reducible exact HB.out))⟩

/-! ### impl_PlanesWords: function 31 -/
def impl_PlanesWords.f (k : Nat) (a0_0 : Int) (l0_1 : List Int) (l0_2 : List Int) : Option (List ByteArray) := (impl_planesWords.f k a0_0 l0_1 l0_2).bind fun bt189 => (some bt189.1)
theorem impl_PlanesWords.mono : ∀ a0 a1 a2 k, LeO (impl_PlanesWords.f k a0 a1 a2) (impl_PlanesWords.f (k + 1) a0 a1 a2) := by
  intro a0 a1 a2 k
  unfold impl_PlanesWords.f
  repeat' first | (with_reducible exact impl_planesWords.mono _ _ _ _) | (with_reducible exact LeO.refl _) | (with_reducible refine LeO.bind ?_ (fun _ => ?_))
set_option maxHeartbeats 8000000 in
set_option maxRecDepth 100000 in
theorem impl_PlanesWords.calls (k : Nat) (a0_0 : Int) (A0_1 : Option Addr) (c0_1 : Nat) (l0_1 : List Int) (A0_2 : Option Addr) (c0_2 : Nat) (l0_2 : List Int) (r : List ByteArray) (w : World) (hr0_1 : Kd.C (Kd.int .u64) w A0_1 l0_1.length l0_1) (hc0_1 : l0_1.length ≤ c0_1) (hr0_2 : Kd.C (Kd.int .u64) w A0_2 l0_2.length l0_2) (hc0_2 : l0_2.length ≤ c0_2) (h : impl_PlanesWords.f k a0_0 l0_1 l0_2 = some r) :
    Calls Try.prog 31 #[.agg #[.int .i64 a0_0, .slice A0_1 l0_1.length c0_1, .slice A0_2 l0_2.length c0_2]] w fun e w' => ∃ v0_ : Value, e = .returned (v0_) ∧ Kd.R Kd.string 9 w' w.heap.size (fun _ => True) v0_ r ∧ Below w.heap.size w w' := by
  have hu37 := Try.underlying37
  have HR0_1 := Aside0.mk hr0_1
  have HC0_1 := Aside0.mk hc0_1
  clear hr0_1 hc0_1
  have HR0_2 := Aside0.mk hr0_2
  have HC0_2 := Aside0.mk hc0_2
  clear hr0_2 hc0_2
  have HB := Aside0.mk (Below.refl w.heap.size w)
  have H : ((impl_planesWords.f k a0_0 l0_1 l0_2).bind fun bt189 => (some bt189.1)) = some r := h
  clear h
  replace H := Option.bind_eq_some_iff.mp H
  obtain ⟨⟨t189, t192⟩, A20, H⟩ := H
  replace H : (some t189) = some r := H
  have A2 := Aside0.mk A20
  clear A20
  obtain rfl := Option.some.inj H
  go_enter Try.func31, Try.ntmps31
  go_wp2_with (first | ((with_reducible refine gate_dst (N := 1) rfl ?_); refine box_event ?hg (N := 1) ?hd (cs := #[.int .i64 a0_0, .slice A0_1 l0_1.length c0_1, .slice A0_2 l0_2.length c0_2]) (t := 37) ?hr ?_; (case hd => rfl); (case hg => rfl); (case hr => (go_simp; done)); intro gb188 hg w3 hbox hb; have n0_ := Aside0.mk (below_step (by repeat ((with_reducible exact HB.out))) hb); have n1_ := Aside0.mk (hbox); have n2_ := Aside0.mk ((by rw [hg]; exact (below_size (by repeat ((with_reducible exact HB.out)))) : w.heap.size ≤ gb188)); have n3_ := Aside0.mk ((by rw [hg]; exact (below_size (by repeat ((with_reducible exact HB.out)))) : w.heap.size ≤ gb188)); clear HB; have HB := n0_; have BK188 := n1_; have GW188 := n2_; have GE188 := n3_; clear n0_ n1_ n2_ n3_; clear hb hbox hg; have hcz4_0 : w3.cell? ⟨gb188, 0, none⟩ = some (.int .i64 a0_0) := (blk_cell BK188.out 0).trans rfl; have hcz4_1 : w3.cell? ⟨gb188, 1, none⟩ = some (.slice A0_1 l0_1.length c0_1) := (blk_cell BK188.out 1).trans rfl; have hcz4_2 : w3.cell? ⟨gb188, 2, none⟩ = some (.slice A0_2 l0_2.length c0_2) := (blk_cell BK188.out 2).trans rfl; have hfz4_0 := blk_frozen BK188.out 0; have hfz4_1 := blk_frozen BK188.out 1; have hfz4_2 := blk_frozen BK188.out 2) | ((with_reducible refine gate_callee (f := 65) rfl ?_); refine goesL_ (some 7) rfl rfl Try.func65 (by kernel_rfl) rfl #[.agg #[.int .i64 a0_0, .slice A0_1 l0_1.length c0_1, .slice A0_2 l0_2.length c0_2]] rfl (by (try simp only [List.map_toArray, List.map_cons, List.map_nil]); rfl) ?_; (with_reducible refine (impl_planesWords.calls k a0_0 _ _ l0_1 _ _ l0_2 t189 t192 _ ?side1 ?side2 ?side3 ?side4 A2.out).mono ?_); (case side1 => repeat (exact (Kd.C_below HR0_1.out HB.out))); (case side2 => exact HC0_1.out); (case side3 => repeat (exact (Kd.C_below HR0_2.out HB.out))); (case side4 => exact HC0_2.out); rintro e w5 ⟨v190, rfl, ho0, hb⟩; refine ⟨_, rfl, ?_⟩; have n0_ := Aside0.mk (Kd.R_lower ho0 (below_size (by repeat ((with_reducible exact HB.out))))); have n1_ := Aside0.mk (blk_below (g := gb188) (o := .cells #[.int .i64 a0_0, .slice A0_1 l0_1.length c0_1, .slice A0_2 l0_2.length c0_2] 37 (0, 0)) (by (with_reducible repeat (first | refine blk_drewN ?_ _ | refine blk_drew ?_ | refine blk_alloc ?_ _)); exact BK188.out) hb); have n2_ := Aside0.mk (below_step (by repeat ((with_reducible exact HB.out))) hb); clear BK188; clear HB; have HO191 := n0_; have BK188 := n1_; have HB := n2_; clear n0_ n1_ n2_; (try clear hb); (try clear hb2); (try clear hk); (try clear hi); (try clear ho0)))
  go_ret
  exact ⟨_, by rfl, by (with_reducible repeat (first | apply Kd.R_alloc | apply Kd.R_drewN | apply Kd.R_drew)); exact HO191.out, by repeat ((with_reducible exact HB.out))⟩

/-! ### impl_areShort: function 70 -/
def impl_areShort.f (a0 : ByteArray) (a1 : ByteArray) : Option (Bool) := if (a0.size : Int) ≤ 32 then (some (decide ((a1.size : Int) ≤ 32))) else (some false)
set_option maxHeartbeats 8000000 in
set_option maxRecDepth 100000 in
theorem impl_areShort.calls (a0 : ByteArray) (a1 : ByteArray) (r : Bool) (w : World) (h : impl_areShort.f a0 a1 = some r) :
    Calls Try.prog 70 #[.string a0, .string a1] w fun e w' => e = .returned (.bool r) ∧ Drawn0 w w' := by
  have H : (if (a0.size : Int) ≤ 32 then (some (decide ((a1.size : Int) ≤ 32))) else (some false)) = some r := h
  clear h
  by_cases c3 : (a0.size : Int) ≤ 32
  · rw [if_pos c3] at H
    have c3b0 : decide ((a0.size : Int) ≤ 32) = true := decide_eq_true c3
    have c3b1 : decide (a0.size ≤ 32) = true := decide_eq_true (by omega)
    clear c3
    obtain rfl := Option.some.inj H
    go_enter Try.func70, Try.ntmps70
    go_wp2
    go_ret
    exact ⟨by rfl, by repeat (exact Drawn0.refl _)⟩
  · rw [if_neg c3] at H
    have c3b0 : decide ((a0.size : Int) ≤ 32) = false := decide_eq_false c3
    have c3b1 : decide (a0.size ≤ 32) = false := decide_eq_false (by omega)
    clear c3
    obtain rfl := Option.some.inj H
    go_enter Try.func70, Try.ntmps70
    go_wp2
    go_ret
    exact ⟨by rfl, by repeat (exact Drawn0.refl _)⟩

end Go.Proofs.Ytljmhhadclgegaa.PFnBatch

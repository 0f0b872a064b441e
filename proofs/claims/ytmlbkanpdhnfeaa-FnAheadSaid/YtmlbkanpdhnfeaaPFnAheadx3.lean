-- Laid by a program of this session: what the print of the kit writes, and contracts of the session where the print takes no function. Lean checks it.
import Derived.Test.YtmlbkanpdhnfeaaPFnAheadx0
import Derived.Test.YtmlbkanpdhnfeaaPFnAheadx2
namespace Go.Proofs.Ytmlbkanpdhnfeaa.PFnAhead
open Go.RowKit Go.Proofs.YtmlbkanpdhnfeaaW.PrintWords Go.Proofs.YtmlbkanpdhnfeaaW.PrintLast Go.Proofs.YtmlbkanpdhnfeaaW.PrintMore
attribute [local go_sem] max2_int min2_int max_two min_two max_three min_three max_four min_four   -- for this text's walks alone
set_option linter.unusedVariables false
set_option linter.unusedSimpArgs false

/-! ### spec_l01Cur_rec: function 18 -/
def spec_l01Cur_rec.f (k : Nat) (s0_0 : List Int) (s0_1 : Int) (s0_2 : Int) : Option (Bool × Int × Int × ByteArray × Int × Int) := (spec_l01Cur_once.f s0_0 s0_1 s0_2 5).bind fun bt143 => (if bt143.1 = true then (some (false, 0, 0, (⟨#[]⟩ : ByteArray), bt143.2.1, bt143.2.2)) else ((some (([3, 8] : List Int) : List Int)).bind fun y146 => ((spec_l01Cur_pick.f s0_0 bt143.2.1 bt143.2.2 2).bind fun bt149 => (if 0 ≤ bt149.1 then (if bt149.1 < (y146.length : Int) then ((spec_l01Cur_pick.f s0_0 bt149.2.1 bt149.2.2 (rd y146 bt149.1)).bind fun bt153 => ((spec_l01Cur_pick.f s0_0 bt153.2.1 bt153.2.2 3).bind fun bt156 => ((spec_l01Cur_wide.f s0_0 bt156.2.1 bt156.2.2 65536).bind fun bt159 => ((some (([bt156.1, bt159.1, 65535] : List Int) : List Int)).bind fun y162 => ((spec_l01Cur_pick.f s0_0 bt159.2.1 bt159.2.2 3).bind fun bt165 => (if 0 ≤ bt165.1 then (if bt165.1 < (y162.length : Int) then ((spec_l01Cur_word.f k s0_0 bt165.2.1 bt165.2.2).bind fun bt169 => (some (true, bt153.1, rd y162 bt165.1, bt169.1, bt169.2.1, bt169.2.2))) else (none)) else (none))))))) else (none)) else (none)))))
theorem spec_l01Cur_rec.mono : ∀ a0 a1 a2 k, LeO (spec_l01Cur_rec.f k a0 a1 a2) (spec_l01Cur_rec.f (k + 1) a0 a1 a2) := by
  intro a0 a1 a2 k
  unfold spec_l01Cur_rec.f
  repeat' first | (with_reducible exact spec_l01Cur_word.mono _ _ _ _) | (with_reducible exact LeO.refl _) | (with_reducible refine LeO.ite ?_ ?_) | (with_reducible refine LeO.bind ?_ (fun _ => ?_))
def spec_l01Cur_rec.T3 : Bool × List (List Nat × List Nat) := (true, [([], []), ([], []), ([], []), ([2], [2]), ([1, 3], [1, 3]), ([4], [4]), ([0, 5, 3], [0, 5]), ([], []), ([7, 6], [7]), ([], []), ([9, 8], [9]), ([8, 10], [8, 10]), ([], []), ([12, 10], [12]), ([11, 13], [11, 13]), ([14], [14]), ([], []), ([16, 13], [16]), ([6, 15, 17], [6, 15, 17]), ([18, 17, 0, 1, 2, 3, 4, 5, 6, 7, 8, 9, 10, 11, 12, 13, 14, 15, 16, 17, 18], [18])])
def spec_l01Cur_rec.B3 : List Nat := [0, 0, 0, 4, 14, 30, 63, 0, 255, 0, 1023, 2047, 0, 6143, 16383, 32767, 0, 79871, 262143, 524287]
theorem spec_l01Cur_rec.tab3 : rtab .any (opsOf Try.f18 3) = spec_l01Cur_rec.T3 := by kernel_rfl
theorem spec_l01Cur_rec.bits3 : waitsOk spec_l01Cur_rec.T3.2 spec_l01Cur_rec.B3 = true := by kernel_rfl
set_option maxHeartbeats 8000000 in
set_option maxRecDepth 100000 in
theorem spec_l01Cur_rec.calls (k : Nat) (g : Nat) (s0_0 : List Int) (s0_1 : Int) (s0_2 : Int) (r1 : Bool) (r2 : Int) (r3 : Int) (r4 : ByteArray) (r5 : Int) (r6 : Int) (w0 w : World) (hI : IsS38 w0 w g s0_0 s0_1 s0_2) (hB : Below w0.heap.size w0 w) (h : spec_l01Cur_rec.f k s0_0 s0_1 s0_2 = some (r1, r2, r3, r4, r5, r6)) :
    Calls Try.prog 18 #[.pointer (some ⟨g, 0, none⟩)] w fun e w' => e = .returned (.agg #[.bool r1, .int .i64 r2, .int .i64 r3, .string r4]) ∧ IsS38 w0 w' g s0_0 r5 r6 ∧ Below w0.heap.size w0 w' ∧ KeepBut w w' g none := by
  have hu25 := Try.underlying25
  have HI0 := Aside0.mk hI
  have HK := Aside0.mk (KeepBut.refl w g none)
  have HL := Aside0.mk hB.size
  clear hI
  have HW0 := Aside0.mk hB.size
  have HB := Aside0.mk hB
  clear hB
  have H : ((spec_l01Cur_once.f s0_0 s0_1 s0_2 5).bind fun bt143 => (if bt143.1 = true then (some (false, 0, 0, (⟨#[]⟩ : ByteArray), bt143.2.1, bt143.2.2)) else ((some (([3, 8] : List Int) : List Int)).bind fun y146 => ((spec_l01Cur_pick.f s0_0 bt143.2.1 bt143.2.2 2).bind fun bt149 => (if 0 ≤ bt149.1 then (if bt149.1 < (y146.length : Int) then ((spec_l01Cur_pick.f s0_0 bt149.2.1 bt149.2.2 (rd y146 bt149.1)).bind fun bt153 => ((spec_l01Cur_pick.f s0_0 bt153.2.1 bt153.2.2 3).bind fun bt156 => ((spec_l01Cur_wide.f s0_0 bt156.2.1 bt156.2.2 65536).bind fun bt159 => ((some (([bt156.1, bt159.1, 65535] : List Int) : List Int)).bind fun y162 => ((spec_l01Cur_pick.f s0_0 bt159.2.1 bt159.2.2 3).bind fun bt165 => (if 0 ≤ bt165.1 then (if bt165.1 < (y162.length : Int) then ((spec_l01Cur_word.f k s0_0 bt165.2.1 bt165.2.2).bind fun bt169 => (some (true, bt153.1, rd y162 bt165.1, bt169.1, bt169.2.1, bt169.2.2))) else (none)) else (none))))))) else (none)) else (none)))))) = some (r1, r2, r3, r4, r5, r6) := h
  clear h
  replace H := Option.bind_eq_some_iff.mp H
  obtain ⟨⟨t143, t144, t145⟩, A20, H⟩ := H
  replace H : (if t143 = true then (some (false, 0, 0, (⟨#[]⟩ : ByteArray), t144, t145)) else ((some (([3, 8] : List Int) : List Int)).bind fun y146 => ((spec_l01Cur_pick.f s0_0 t144 t145 2).bind fun bt149 => (if 0 ≤ bt149.1 then (if bt149.1 < (y146.length : Int) then ((spec_l01Cur_pick.f s0_0 bt149.2.1 bt149.2.2 (rd y146 bt149.1)).bind fun bt153 => ((spec_l01Cur_pick.f s0_0 bt153.2.1 bt153.2.2 3).bind fun bt156 => ((spec_l01Cur_wide.f s0_0 bt156.2.1 bt156.2.2 65536).bind fun bt159 => ((some (([bt156.1, bt159.1, 65535] : List Int) : List Int)).bind fun y162 => ((spec_l01Cur_pick.f s0_0 bt159.2.1 bt159.2.2 3).bind fun bt165 => (if 0 ≤ bt165.1 then (if bt165.1 < (y162.length : Int) then ((spec_l01Cur_word.f k s0_0 bt165.2.1 bt165.2.2).bind fun bt169 => (some (true, bt153.1, rd y162 bt165.1, bt169.1, bt169.2.1, bt169.2.2))) else (none)) else (none))))))) else (none)) else (none))))) = some (r1, r2, r3, r4, r5, r6) := H
  have A2 := Aside0.mk A20
  clear A20
  by_cases c3 : t143 = true
  · subst c3
    have H1 : (some (false, 0, 0, (⟨#[]⟩ : ByteArray), t144, t145)) = some (r1, r2, r3, r4, r5, r6) := by rw [if_pos rfl] at H; exact H
    clear H
    have H := H1
    clear H1
    simp only [Option.some.injEq, Prod.mk.injEq] at H
    obtain ⟨rfl, rfl, rfl, rfl, rfl, rfl⟩ := H
    go_enter Try.func18, Try.ntmps18
    go_wp2_with (first | ((with_reducible refine gate_dst (N := 2) rfl ?_); refine box_event ?hg (N := 2) ?hd (cs := #[.bool false, .int .i64 0, .int .i64 0, .string (⟨#[]⟩ : ByteArray)]) (t := 25) ?hr ?_; (case hd => rfl); (case hg => rfl); (case hr => (go_simp; done)); intro gb142 hg w4 hbox hb; have n0_ := Aside0.mk (IsS38.below (by repeat ((with_reducible exact HI0.out))) hb); have n1_ := Aside0.mk (KeepBut.trans (by repeat ((with_reducible exact HK.out))) (KeepBut.of_below hb g none) (.inl rfl)); have n2_ := Aside0.mk (below_step (by repeat ((with_reducible exact HB.out))) hb); have n3_ := Aside0.mk (hbox); have n4_ := Aside0.mk ((by rw [hg]; exact (keep_size (w := w) (g := g) (row := none) (by repeat ((with_reducible exact HK.out)))) : w.heap.size ≤ gb142)); have n5_ := Aside0.mk ((Nat.le_trans HW0.out (by rw [hg]; exact (keep_size (w := w) (g := g) (row := none) (by repeat ((with_reducible exact HK.out)))) : w.heap.size ≤ gb142) : w0.heap.size ≤ gb142)); have n6_ := Aside0.mk ((by rw [hg]; exact Nat.ne_of_lt (IsS38.lt (show IsS38 w0 _ g s0_0 s0_1 s0_2 from by repeat ((with_reducible exact HI0.out)))) : g ≠ gb142)); have n7_ := Aside0.mk ((by rw [hg]; exact Nat.ne_of_gt (IsS38.lt (show IsS38 w0 _ g s0_0 s0_1 s0_2 from by repeat ((with_reducible exact HI0.out)))) : gb142 ≠ g)); clear HI0; clear HK; clear HB; have HI0 := n0_; have HK := n1_; have HB := n2_; have BK142 := n3_; have GW142 := n4_; have GE142 := n5_; have NB0_142 := n6_; have NB142_0 := n7_; clear n0_ n1_ n2_ n3_ n4_ n5_ n6_ n7_; clear hb hbox hg) | ((with_reducible refine gate_callee (f := 12) rfl ?_); refine goesL_ (some 4) rfl rfl Try.func12 (by kernel_rfl) rfl #[.pointer (some ⟨g, 0, none⟩), .int .i64 5] rfl (by (try simp only [List.map_toArray, List.map_cons, List.map_nil]); rfl) ?_; (with_reducible refine (spec_l01Cur_once.calls g s0_0 s0_1 s0_2 5 true t144 t145 w0 _ ?side1 ?side2 A2.out).mono ?_); (case side1 => repeat ((with_reducible exact HI0.out))); (case side2 => repeat ((with_reducible exact HB.out))); rintro e w5 ⟨rfl, hi, hb, hk⟩; refine ⟨_, rfl, ?_⟩; have n0_ := Aside0.mk (KeepBut.blk hk (g' := gb142) (o := .cells #[.bool false, .int .i64 0, .int .i64 0, .string (⟨#[]⟩ : ByteArray)] 25 (0, 0)) (by (with_reducible repeat (first | refine blk_drewN ?_ _ | refine blk_drew ?_ | refine blk_alloc ?_ _)); exact BK142.out) NB142_0.out (by simp)); have n1_ := Aside0.mk (KeepBut.trans (by repeat ((with_reducible exact HK.out))) hk (.inl rfl)); have n2_ := Aside0.mk (hb); have n3_ := Aside0.mk (hi); clear BK142; clear HK; clear HB; clear HI0; have BK142 := n0_; have HK := n1_; have HB := n2_; have HI0 := n3_; clear n0_ n1_ n2_ n3_; (try clear hb); (try clear hb2); (try clear hk); (try clear hi); have hnb6 := NB142_0.out; have hnc6 := NB0_142.out; have hcz7_0 : w5.cell? ⟨gb142, 0, none⟩ = some (.bool false) := (blk_cell BK142.out 0).trans rfl; have hcz7_1 : w5.cell? ⟨gb142, 1, none⟩ = some (.int .i64 0) := (blk_cell BK142.out 1).trans rfl; have hcz7_2 : w5.cell? ⟨gb142, 2, none⟩ = some (.int .i64 0) := (blk_cell BK142.out 2).trans rfl; have hcz7_3 : w5.cell? ⟨gb142, 3, none⟩ = some (.string (⟨#[]⟩ : ByteArray)) := (blk_cell BK142.out 3).trans rfl; have hfz7_0 := blk_frozen BK142.out 0; have hfz7_1 := blk_frozen BK142.out 1; have hfz7_2 := blk_frozen BK142.out 2; have hfz7_3 := blk_frozen BK142.out 3))
    refine bodyPost_ret (results_cell_row rfl _ _ gb142 25 #[.bool false, .int .i64 0, .int .i64 0, .string (⟨#[]⟩ : ByteArray)] (0, 0) _ rfl (by (with_reducible repeat (first | refine blk_drewN ?_ _ | refine blk_drew ?_ | refine blk_alloc ?_ _)); refine blk_put (cs := #[.bool false, .int .i64 0, .int .i64 0, .string (⟨#[]⟩ : ByteArray)]) ?_ 3 _ rfl; (with_reducible repeat (first | refine blk_drewN ?_ _ | refine blk_drew ?_ | refine blk_alloc ?_ _)); refine blk_put (cs := #[.bool false, .int .i64 0, .int .i64 0, .string (⟨#[]⟩ : ByteArray)]) ?_ 2 _ rfl; (with_reducible repeat (first | refine blk_drewN ?_ _ | refine blk_drew ?_ | refine blk_alloc ?_ _)); refine blk_put (cs := #[.bool false, .int .i64 0, .int .i64 0, .string (⟨#[]⟩ : ByteArray)]) ?_ 1 _ rfl; (with_reducible repeat (first | refine blk_drewN ?_ _ | refine blk_drew ?_ | refine blk_alloc ?_ _)); refine blk_put (cs := #[.bool false, .int .i64 0, .int .i64 0, .string (⟨#[]⟩ : ByteArray)]) ?_ 0 _ rfl; (with_reducible repeat (first | refine blk_drewN ?_ _ | refine blk_drew ?_ | refine blk_alloc ?_ _)); exact BK142.out) Try.underlying25 rfl (by kernel_rfl)) rfl ?_
    exact ⟨by rfl, by repeat ((with_reducible first | exact HI0.out | refine IsS38.far ?_ NB0_142.out _)), by repeat ((with_reducible first | exact HB.out | refine below_set ?_ GE142.out)), by repeat ((with_reducible first | exact HK.out | refine keep_far ?_ GW142.out _))⟩
  · replace c3 := Bool.eq_false_iff.mpr c3
    subst c3
    have H1 : ((some (([3, 8] : List Int) : List Int)).bind fun y146 => ((spec_l01Cur_pick.f s0_0 t144 t145 2).bind fun bt149 => (if 0 ≤ bt149.1 then (if bt149.1 < (y146.length : Int) then ((spec_l01Cur_pick.f s0_0 bt149.2.1 bt149.2.2 (rd y146 bt149.1)).bind fun bt153 => ((spec_l01Cur_pick.f s0_0 bt153.2.1 bt153.2.2 3).bind fun bt156 => ((spec_l01Cur_wide.f s0_0 bt156.2.1 bt156.2.2 65536).bind fun bt159 => ((some (([bt156.1, bt159.1, 65535] : List Int) : List Int)).bind fun y162 => ((spec_l01Cur_pick.f s0_0 bt159.2.1 bt159.2.2 3).bind fun bt165 => (if 0 ≤ bt165.1 then (if bt165.1 < (y162.length : Int) then ((spec_l01Cur_word.f k s0_0 bt165.2.1 bt165.2.2).bind fun bt169 => (some (true, bt153.1, rd y162 bt165.1, bt169.1, bt169.2.1, bt169.2.2))) else (none)) else (none))))))) else (none)) else (none)))) = some (r1, r2, r3, r4, r5, r6) := by rw [if_neg (show ¬ (false = true) by decide)] at H; exact H
    clear H
    have H := H1
    clear H1
    obtain ⟨y146, hy146⟩ : ∃ y_ : List Int, y_ = (([3, 8] : List Int)) := ⟨_, rfl⟩
    replace H : ((spec_l01Cur_pick.f s0_0 t144 t145 2).bind fun bt149 => (if 0 ≤ bt149.1 then (if bt149.1 < (y146.length : Int) then ((spec_l01Cur_pick.f s0_0 bt149.2.1 bt149.2.2 (rd y146 bt149.1)).bind fun bt153 => ((spec_l01Cur_pick.f s0_0 bt153.2.1 bt153.2.2 3).bind fun bt156 => ((spec_l01Cur_wide.f s0_0 bt156.2.1 bt156.2.2 65536).bind fun bt159 => ((some (([bt156.1, bt159.1, 65535] : List Int) : List Int)).bind fun y162 => ((spec_l01Cur_pick.f s0_0 bt159.2.1 bt159.2.2 3).bind fun bt165 => (if 0 ≤ bt165.1 then (if bt165.1 < (y162.length : Int) then ((spec_l01Cur_word.f k s0_0 bt165.2.1 bt165.2.2).bind fun bt169 => (some (true, bt153.1, rd y162 bt165.1, bt169.1, bt169.2.1, bt169.2.2))) else (none)) else (none))))))) else (none)) else (none))) = some (r1, r2, r3, r4, r5, r6) := by (have H2_ := (Option.bind_some _ _).symm.trans H; rw [hy146]; with_reducible exact H2_)
    have Ny146 := Aside0.mk hy146
    clear hy146
    replace H := Option.bind_eq_some_iff.mp H
    obtain ⟨⟨t149, t150, t151⟩, A80, H⟩ := H
    replace H : (if 0 ≤ t149 then (if t149 < (y146.length : Int) then ((spec_l01Cur_pick.f s0_0 t150 t151 (rd y146 t149)).bind fun bt153 => ((spec_l01Cur_pick.f s0_0 bt153.2.1 bt153.2.2 3).bind fun bt156 => ((spec_l01Cur_wide.f s0_0 bt156.2.1 bt156.2.2 65536).bind fun bt159 => ((some (([bt156.1, bt159.1, 65535] : List Int) : List Int)).bind fun y162 => ((spec_l01Cur_pick.f s0_0 bt159.2.1 bt159.2.2 3).bind fun bt165 => (if 0 ≤ bt165.1 then (if bt165.1 < (y162.length : Int) then ((spec_l01Cur_word.f k s0_0 bt165.2.1 bt165.2.2).bind fun bt169 => (some (true, bt153.1, rd y162 bt165.1, bt169.1, bt169.2.1, bt169.2.2))) else (none)) else (none))))))) else (none)) else (none)) = some (r1, r2, r3, r4, r5, r6) := H
    have A8 := Aside0.mk A80
    clear A80
    by_cases c9 : 0 ≤ t149
    · rw [if_pos c9] at H
      have c9b0 : decide (0 ≤ t149) = true := decide_eq_true c9
      clear c9
      by_cases c10 : t149 < (y146.length : Int)
      · rw [if_pos c10] at H
        have c10b0 : decide (t149 < (y146.length : Int)) = true := decide_eq_true c10
        clear c10
        replace H := Option.bind_eq_some_iff.mp H
        obtain ⟨⟨t153, t154, t155⟩, A110, H⟩ := H
        replace H : ((spec_l01Cur_pick.f s0_0 t154 t155 3).bind fun bt156 => ((spec_l01Cur_wide.f s0_0 bt156.2.1 bt156.2.2 65536).bind fun bt159 => ((some (([bt156.1, bt159.1, 65535] : List Int) : List Int)).bind fun y162 => ((spec_l01Cur_pick.f s0_0 bt159.2.1 bt159.2.2 3).bind fun bt165 => (if 0 ≤ bt165.1 then (if bt165.1 < (y162.length : Int) then ((spec_l01Cur_word.f k s0_0 bt165.2.1 bt165.2.2).bind fun bt169 => (some (true, t153, rd y162 bt165.1, bt169.1, bt169.2.1, bt169.2.2))) else (none)) else (none)))))) = some (r1, r2, r3, r4, r5, r6) := H
        have A11 := Aside0.mk A110
        clear A110
        replace H := Option.bind_eq_some_iff.mp H
        obtain ⟨⟨t156, t157, t158⟩, A120, H⟩ := H
        replace H : ((spec_l01Cur_wide.f s0_0 t157 t158 65536).bind fun bt159 => ((some (([t156, bt159.1, 65535] : List Int) : List Int)).bind fun y162 => ((spec_l01Cur_pick.f s0_0 bt159.2.1 bt159.2.2 3).bind fun bt165 => (if 0 ≤ bt165.1 then (if bt165.1 < (y162.length : Int) then ((spec_l01Cur_word.f k s0_0 bt165.2.1 bt165.2.2).bind fun bt169 => (some (true, t153, rd y162 bt165.1, bt169.1, bt169.2.1, bt169.2.2))) else (none)) else (none))))) = some (r1, r2, r3, r4, r5, r6) := H
        have A12 := Aside0.mk A120
        clear A120
        replace H := Option.bind_eq_some_iff.mp H
        obtain ⟨⟨t159, t160, t161⟩, A130, H⟩ := H
        replace H : ((some (([t156, t159, 65535] : List Int) : List Int)).bind fun y162 => ((spec_l01Cur_pick.f s0_0 t160 t161 3).bind fun bt165 => (if 0 ≤ bt165.1 then (if bt165.1 < (y162.length : Int) then ((spec_l01Cur_word.f k s0_0 bt165.2.1 bt165.2.2).bind fun bt169 => (some (true, t153, rd y162 bt165.1, bt169.1, bt169.2.1, bt169.2.2))) else (none)) else (none)))) = some (r1, r2, r3, r4, r5, r6) := H
        have A13 := Aside0.mk A130
        clear A130
        obtain ⟨y162, hy162⟩ : ∃ y_ : List Int, y_ = (([t156, t159, 65535] : List Int)) := ⟨_, rfl⟩
        replace H : ((spec_l01Cur_pick.f s0_0 t160 t161 3).bind fun bt165 => (if 0 ≤ bt165.1 then (if bt165.1 < (y162.length : Int) then ((spec_l01Cur_word.f k s0_0 bt165.2.1 bt165.2.2).bind fun bt169 => (some (true, t153, rd y162 bt165.1, bt169.1, bt169.2.1, bt169.2.2))) else (none)) else (none))) = some (r1, r2, r3, r4, r5, r6) := by (have H2_ := (Option.bind_some _ _).symm.trans H; rw [hy162]; with_reducible exact H2_)
        have Ny162 := Aside0.mk hy162
        clear hy162
        replace H := Option.bind_eq_some_iff.mp H
        obtain ⟨⟨t165, t166, t167⟩, A140, H⟩ := H
        replace H : (if 0 ≤ t165 then (if t165 < (y162.length : Int) then ((spec_l01Cur_word.f k s0_0 t166 t167).bind fun bt169 => (some (true, t153, rd y162 t165, bt169.1, bt169.2.1, bt169.2.2))) else (none)) else (none)) = some (r1, r2, r3, r4, r5, r6) := H
        have A14 := Aside0.mk A140
        clear A140
        by_cases c15 : 0 ≤ t165
        · rw [if_pos c15] at H
          have c15b0 : decide (0 ≤ t165) = true := decide_eq_true c15
          clear c15
          by_cases c16 : t165 < (y162.length : Int)
          · rw [if_pos c16] at H
            have c16b0 : decide (t165 < (y162.length : Int)) = true := decide_eq_true c16
            clear c16
            replace H := Option.bind_eq_some_iff.mp H
            obtain ⟨⟨t169, t170, t171⟩, A170, H⟩ := H
            replace H : (some (true, t153, rd y162 t165, t169, t170, t171)) = some (r1, r2, r3, r4, r5, r6) := H
            have A17 := Aside0.mk A170
            clear A170
            simp only [Option.some.injEq, Prod.mk.injEq] at H
            obtain ⟨rfl, rfl, rfl, rfl, rfl, rfl⟩ := H
            go_enter Try.func18, Try.ntmps18
            try go_wp2_with (first | ((with_reducible refine gate_dst (N := 2) rfl ?_); refine box_event ?hg (N := 2) ?hd (cs := #[.bool false, .int .i64 0, .int .i64 0, .string (⟨#[]⟩ : ByteArray)]) (t := 25) ?hr ?_; (case hd => rfl); (case hg => rfl); (case hr => (go_simp; done)); intro gb142 hg w18 hbox hb; have n0_ := Aside0.mk (IsS38.below (by repeat ((with_reducible exact HI0.out))) hb); have n1_ := Aside0.mk (KeepBut.trans (by repeat ((with_reducible exact HK.out))) (KeepBut.of_below hb g none) (.inl rfl)); have n2_ := Aside0.mk (below_step (by repeat ((with_reducible exact HB.out))) hb); have n3_ := Aside0.mk (hbox); have n4_ := Aside0.mk ((by rw [hg]; exact (keep_size (w := w) (g := g) (row := none) (by repeat ((with_reducible exact HK.out)))) : w.heap.size ≤ gb142)); have n5_ := Aside0.mk ((Nat.le_trans HW0.out (by rw [hg]; exact (keep_size (w := w) (g := g) (row := none) (by repeat ((with_reducible exact HK.out)))) : w.heap.size ≤ gb142) : w0.heap.size ≤ gb142)); have n6_ := Aside0.mk ((by rw [hg]; exact Nat.ne_of_lt (IsS38.lt (show IsS38 w0 _ g s0_0 s0_1 s0_2 from by repeat ((with_reducible exact HI0.out)))) : g ≠ gb142)); have n7_ := Aside0.mk ((by rw [hg]; exact Nat.ne_of_gt (IsS38.lt (show IsS38 w0 _ g s0_0 s0_1 s0_2 from by repeat ((with_reducible exact HI0.out)))) : gb142 ≠ g)); clear HI0; clear HK; clear HB; have HI0 := n0_; have HK := n1_; have HB := n2_; have BK142 := n3_; have GW142 := n4_; have GE142 := n5_; have NB0_142 := n6_; have NB142_0 := n7_; clear n0_ n1_ n2_ n3_ n4_ n5_ n6_ n7_; clear hb hbox hg) | ((with_reducible refine gate_callee (f := 12) rfl ?_); refine goesL_ (some 4) rfl rfl Try.func12 (by kernel_rfl) rfl #[.pointer (some ⟨g, 0, none⟩), .int .i64 5] rfl (by (try simp only [List.map_toArray, List.map_cons, List.map_nil]); rfl) ?_; (with_reducible refine (spec_l01Cur_once.calls g s0_0 s0_1 s0_2 5 false t144 t145 w0 _ ?side1 ?side2 A2.out).mono ?_); (case side1 => repeat ((with_reducible exact HI0.out))); (case side2 => repeat ((with_reducible exact HB.out))); rintro e w19 ⟨rfl, hi, hb, hk⟩; refine ⟨_, rfl, ?_⟩; have n0_ := Aside0.mk (KeepBut.blk hk (g' := gb142) (o := .cells #[.bool false, .int .i64 0, .int .i64 0, .string (⟨#[]⟩ : ByteArray)] 25 (0, 0)) (by (with_reducible repeat (first | refine blk_drewN ?_ _ | refine blk_drew ?_ | refine blk_alloc ?_ _)); exact BK142.out) NB142_0.out (by simp)); have n1_ := Aside0.mk (KeepBut.trans (by repeat ((with_reducible exact HK.out))) hk (.inl rfl)); have n2_ := Aside0.mk (hb); have n3_ := Aside0.mk (hi); clear BK142; clear HK; clear HB; clear HI0; have BK142 := n0_; have HK := n1_; have HB := n2_; have HI0 := n3_; clear n0_ n1_ n2_ n3_; (try clear hb); (try clear hb2); (try clear hk); (try clear hi)))
            have pi152 : (0 ≤ (t149 : Int)) = True := eq_true (of_decide_eq_true (by (with_reducible assumption)))
            have qi152 : (t149 < (y146.length : Int)) = True := eq_true (of_decide_eq_true (by (with_reducible assumption)))
            have pi168 : (0 ≤ (t165 : Int)) = True := eq_true (of_decide_eq_true (by (with_reducible assumption)))
            have qi168 : (t165 < (y162.length : Int)) = True := eq_true (of_decide_eq_true (by (with_reducible assumption)))
            have n0_ := Aside0.mk (blk_drew BK142.out)
            have n1_ := Aside0.mk (IsS38.drew HI0.out)
            have n2_ := Aside0.mk (keep_drew HK.out)
            have n3_ := Aside0.mk (below_drew1 HB.out)
            clear BK142
            clear HI0
            clear HK
            clear HB
            have BK142 := n0_
            have HI0 := n1_
            have HK := n2_
            have HB := n3_
            clear n0_ n1_ n2_ n3_
            refine start_ (n := 20) (S := fun w' => True) (ds := []) #[false, false, false, false, false, false, false, false, false, false, false, false, false, false, false, false, false, false, false, false] (by kernel_rfl) rfl rfl trivial (fun hHeld => ?_); refine with_tabW spec_l01Cur_rec.tab3 spec_l01Cur_rec.bits3 (fun HT_ HW_ => ?_)
            generalize w19.drew = w20 at BK142 HI0 HK HB hHeld ⊢
            refine pure_ (i := 0) (N := some 6) (v := ?_) (a' := ?_) #[true, false, false, false, false, false, false, false, false, false, false, false, false, false, false, false, false, false, false, false] rfl rfl (any_of HT_.out (by kernel_rfl)) (fun _ _ _ h => h) (Or.inl ⟨by rfl, ?_⟩) ?_ ?_
            rotate_left
            · intro w'
              go_simp
              with_reducible rfl
            rotate_left
            · simp only [Act.put, List.setIfInBounds_toArray, List.set_cons_zero, List.set_cons_succ, i64_w, i32_w]
              rfl
            refine pure_ (i := 2) (N := some 8) (v := ?_) (a' := ?_) #[true, false, true, false, false, false, false, false, false, false, false, false, false, false, false, false, false, false, false, false] rfl rfl (any_of HT_.out (by kernel_rfl)) (fun _ _ _ h => h) (Or.inl ⟨by rfl, ?_⟩) ?_ ?_
            rotate_left
            · intro w'
              go_simp
              with_reducible rfl
            rotate_left
            · simp only [Act.put, List.setIfInBounds_toArray, List.set_cons_zero, List.set_cons_succ, i64_w, i32_w]
              rfl
            refine pure_ (i := 7) (N := some 13) (v := ?_) (a' := ?_) #[true, false, true, false, false, false, false, true, false, false, false, false, false, false, false, false, false, false, false, false] rfl rfl (any_of HT_.out (by kernel_rfl)) (fun _ _ _ h => h) (Or.inl ⟨by rfl, ?_⟩) ?_ ?_
            rotate_left
            · intro w'
              go_simp
              with_reducible rfl
            rotate_left
            · simp only [Act.put, List.setIfInBounds_toArray, List.set_cons_zero, List.set_cons_succ, i64_w, i32_w]
              rfl
            refine pure_ (i := 9) (N := some 15) (v := ?_) (a' := ?_) #[true, false, true, false, false, false, false, true, false, true, false, false, false, false, false, false, false, false, false, false] rfl rfl (any_of HT_.out (by kernel_rfl)) (fun _ _ _ h => h) (Or.inl ⟨by rfl, ?_⟩) ?_ ?_
            rotate_left
            · intro w'
              go_simp
              with_reducible rfl
            rotate_left
            · simp only [Act.put, List.setIfInBounds_toArray, List.set_cons_zero, List.set_cons_succ, i64_w, i32_w]
              rfl
            refine pure_ (i := 12) (N := some 18) (v := ?_) (a' := ?_) #[true, false, true, false, false, false, false, true, false, true, false, false, true, false, false, false, false, false, false, false] rfl rfl (any_of HT_.out (by kernel_rfl)) (fun _ _ _ h => h) (Or.inl ⟨by rfl, ?_⟩) ?_ ?_
            rotate_left
            · intro w'
              go_simp
              with_reducible rfl
            rotate_left
            · simp only [Act.put, List.setIfInBounds_toArray, List.set_cons_zero, List.set_cons_succ, i64_w, i32_w]
              rfl
            refine pure_ (i := 16) (N := some 22) (v := ?_) (a' := ?_) #[true, false, true, false, false, false, false, true, false, true, false, false, true, false, false, false, true, false, false, false] rfl rfl (any_of HT_.out (by kernel_rfl)) (fun _ _ _ h => h) (Or.inl ⟨by rfl, ?_⟩) ?_ ?_
            rotate_left
            · intro w'
              go_simp
              with_reducible rfl
            rotate_left
            · simp only [Act.put, List.setIfInBounds_toArray, List.set_cons_zero, List.set_cons_succ, i64_w, i32_w]
              rfl
            refine inv_at [1, 3, 4, 5, 6, 8, 10, 11, 13, 14, 15, 17, 18, 19] (fun a0_ b a w' => ∃ (v147 : Value) (adz_v147 : Addr) (v163 : Value) (adz_v163 : Addr) (m4_ : Value) (m14_ : Value), a = putSel a0_ b [(1, 7, v147), (3, 9, .int .i64 t149), (4, 10, m4_), (5, 11, .int .i64 (rd y146 t149)), (6, 12, .int .i64 t153), (8, 14, .int .i64 t156), (10, 16, .int .i64 t159), (11, 17, v163), (13, 19, .int .i64 t165), (14, 20, m14_), (15, 21, .int .i64 (rd y162 t165)), (17, 23, .string t169), (18, 24, .agg #[.bool true, .int .i64 t153, .int .i64 (rd y162 t165), .string t169])] ∧ (b 19 = false → w'.heap[gb142]? = some (.cells #[.bool false, .int .i64 0, .int .i64 0, .string (⟨#[]⟩ : ByteArray)] 25 (0, 0))) ∧ (b 3 = false → IsS38 w0 w' g s0_0 t144 t145) ∧ (KeepBut w w' g none) ∧ (Below w0.heap.size w0 w') ∧ (b 1 = true → Kd.R (Kd.int .i64) 3 w' w.heap.size (fun _ => True) v147 y146) ∧ (b 1 = true → ∃ c_, (v147 : Value) = .slice (some adz_v147) y146.length c_) ∧ (b 3 = true → b 6 = false → IsS38 w0 w' g s0_0 t150 t151) ∧ (b 6 = true → b 8 = false → IsS38 w0 w' g s0_0 t154 t155) ∧ (b 8 = true → b 10 = false → IsS38 w0 w' g s0_0 t157 t158) ∧ (b 10 = true → b 13 = false → IsS38 w0 w' g s0_0 t160 t161) ∧ (b 11 = true → Kd.R (Kd.int .i64) 3 w' w.heap.size (fun _ => True) v163 y162) ∧ (b 11 = true → ∃ c_, (v163 : Value) = .slice (some adz_v163) y162.length c_) ∧ (b 13 = true → b 17 = false → IsS38 w0 w' g s0_0 t166 t167) ∧ (b 17 = true → IsS38 w0 w' g s0_0 t170 t171) ∧ (b 19 = true → w'.heap[gb142]? = some (.cells #[.bool true, .int .i64 t153, .int .i64 (rd y162 t165), .string t169] 25 (0, 0))) ∧ (b 4 = true → (m4_ : Value) = .pointer (some (adz_v147.add (t149).toNat))) ∧ (b 14 = true → (m14_ : Value) = .pointer (some (adz_v163.add (t165).toNat)))) HT_.out HW_.out (by kernel_rfl) (by kernel_rfl) ?_ ?_ ?_
            · exact ⟨.bool false, ⟨0, 0, none⟩, .bool false, ⟨0, 0, none⟩, .bool false, .bool false, by simp only [putSel, Bool.false_eq_true, if_false], fun _ => BK142.out, fun _ => HI0.out, HK.out, HB.out, fun h_ => absurd h_ (by decide), fun h_ => absurd h_ (by decide), fun h_ => absurd h_ (by decide), fun h_ => absurd h_ (by decide), fun h_ => absurd h_ (by decide), fun h_ => absurd h_ (by decide), fun h_ => absurd h_ (by decide), fun h_ => absurd h_ (by decide), fun h_ => absurd h_ (by decide), fun h_ => absurd h_ (by decide), fun h_ => absurd h_ (by decide), fun h_ => absurd h_ (by decide), fun h_ => absurd h_ (by decide)⟩
            · skip
              clear BK142 HB HI0 HK
              refine steps_cons ?_ ?_
              · rintro b a w' ⟨v147, adz_v147, v163, adz_v163, m4_, m14_, ha, Q_BK142, Q_HI0, Q_HK, Q_HB, Q_HO148, Q_HA_HO148, Q_HI0_e3, Q_HI0_e6, Q_HI0_e8, Q_HI0_e10, Q_HO164, Q_HA_HO164, Q_HI0_e13, Q_HI0_e17, Q_BK142_e19, Q_X4_, Q_X14_⟩ hb_ hon hoff
                refine ⟨_, rfl, fun K hK => ?_⟩
                replace ha := Aside0.mk ha
                have BK142 := Aside0.mk (Q_BK142 (hoff 19 (by kernel_rfl)))
                have HK := Aside0.mk Q_HK
                have HB := Aside0.mk Q_HB
                refine Kd.R_lit_step (Kd.int .i64) _ 3 ?hg (N := 7) ?hd (xs := ([3, 8] : List Int)) (inner := [.int .i64 3, .int .i64 8]) (ok := fun _ => True) (okp := fun _ => True) ?hr ?hp (fun _ hk => hk) trivial (Below.refl _ _) (Nat.le_refl _) (by simp) ?_; (case hd => rfl); (case hg => rfl); (case hr => (go_simp; done)); (case hp => exact (Reps.one (show Kd.M (Kd.int .i64) _ _ _ 3 [.int .i64 3] from rfl) (Reps.one (show Kd.M (Kd.int .i64) _ _ _ 8 [.int .i64 8] from rfl) (Reps.none _ _))))
                intro v147 w21 ho22 hb hg_ hnew_
                clear hg_ hnew_
                (rw [← Ny146.out] at ho22)
                have n0_ := Aside0.mk (Kd.R_lower ho22 (keep_size (w := w) (g := g) (row := none) (by repeat ((with_reducible exact HK.out)))))
                have n2_ := Aside0.mk (blk_below (g := gb142) (o := .cells #[.bool false, .int .i64 0, .int .i64 0, .string (⟨#[]⟩ : ByteArray)] 25 (0, 0)) (by (with_reducible repeat (first | refine blk_drewN ?_ _ | refine blk_drew ?_ | refine blk_alloc ?_ _)); exact BK142.out) hb)
                have n3_ := Aside0.mk (KeepBut.trans (by repeat ((with_reducible exact HK.out))) (KeepBut.of_below hb g none) (.inl rfl))
                have n4_ := Aside0.mk (below_step (by repeat ((with_reducible exact HB.out))) hb)
                have z_HI0 := fun (h0_ : b 3 = false) => (show IsS38 w0 w21 g s0_0 t144 t145 from by exact (IsS38.below (by repeat ((with_reducible exact (Q_HI0 h0_)))) hb))
                have z_HI0_e3 := fun (h0_ : b 3 = true) (h1_ : b 6 = false) => (show IsS38 w0 w21 g s0_0 t150 t151 from by exact (IsS38.below (by repeat ((with_reducible exact (Q_HI0_e3 h0_ h1_)))) hb))
                clear BK142
                clear HK
                clear HB
                have HO148 := n0_
                have BK142 := n2_
                have HK := n3_
                have HB := n4_
                clear n0_ n2_ n3_ n4_
                clear hb ho22
                obtain ⟨Ao23, co23, eo23⟩ := Kd.R_slice HO148.out
                subst eo23
                obtain ⟨ado23, fo23, _⟩ := Kd.at_int (Kd.R_reads' HO148.out).2.2 0 (by decide) (by rw [Ny146.out]; simp)
                cases fo23
                refine hK.out _ _ ⟨.slice (some ado23) y146.length co23, ado23, v163, adz_v163, m4_, m14_, (by rw [ha.out]; exact putSel_upk 0 hb_ rfl rfl rfl), fun _ => (by (with_reducible repeat (first | refine blk_drewN ?_ _ | refine blk_drew ?_ | refine blk_alloc ?_ _)); exact BK142.out), z_HI0, (by repeat ((with_reducible exact HK.out))), (by repeat ((with_reducible exact HB.out))), fun _ => (by (with_reducible repeat (first | apply Kd.R_alloc | apply Kd.R_drewN | apply Kd.R_drew)); exact HO148.out), fun _ => ⟨_, rfl⟩, z_HI0_e3, fun h0_ _ => absurd ((hoff 6 (by kernel_rfl)).symm.trans h0_) (by decide), fun h0_ _ => absurd ((hoff 8 (by kernel_rfl)).symm.trans h0_) (by decide), fun h0_ _ => absurd ((hoff 10 (by kernel_rfl)).symm.trans h0_) (by decide), fun h0_ => absurd ((hoff 11 (by kernel_rfl)).symm.trans h0_) (by decide), fun h0_ => absurd ((hoff 11 (by kernel_rfl)).symm.trans h0_) (by decide), fun h0_ _ => absurd ((hoff 13 (by kernel_rfl)).symm.trans h0_) (by decide), fun h0_ => absurd ((hoff 17 (by kernel_rfl)).symm.trans h0_) (by decide), fun h0_ => absurd ((hoff 19 (by kernel_rfl)).symm.trans h0_) (by decide), fun h0_ => absurd ((hoff 4 (by kernel_rfl)).symm.trans h0_) (by decide), fun h0_ => absurd ((hoff 14 (by kernel_rfl)).symm.trans h0_) (by decide)⟩
              refine steps_cons ?_ ?_
              · rintro b a w' ⟨v147, adz_v147, v163, adz_v163, m4_, m14_, ha, Q_BK142, Q_HI0, Q_HK, Q_HB, Q_HO148, Q_HA_HO148, Q_HI0_e3, Q_HI0_e6, Q_HI0_e8, Q_HI0_e10, Q_HO164, Q_HA_HO164, Q_HI0_e13, Q_HI0_e17, Q_BK142_e19, Q_X4_, Q_X14_⟩ hb_ hon hoff
                refine ⟨_, rfl, fun K hK => ?_⟩
                have e8 : a.tmps[8]? = some (.pointer (some ⟨g, 0, none⟩)) := by rw [ha]; exact (putSel_off rfl).trans rfl
                replace ha := Aside0.mk ha
                have BK142 := Aside0.mk (Q_BK142 (hoff 19 (by kernel_rfl)))
                have HI0 := Aside0.mk (Q_HI0 hb_)
                have HK := Aside0.mk Q_HK
                have HB := Aside0.mk Q_HB
                refine goes_ Try.func19 (by kernel_rfl) rfl #[.pointer (some ⟨g, 0, none⟩), .int .i64 2] (by rfl) rfl rfl (by (simp only [List.map_toArray, List.map_cons, List.map_nil, Act.eval, Array.getD_eq_getD_getElem?, Option.getD_some, e8]; done)) ?_
                with_reducible refine (spec_l01Cur_pick.calls g s0_0 t144 t145 2 t149 t150 t151 w0 _ ?side1 ?side2 A8.out).mono ?_
                (case side1 => repeat ((with_reducible exact HI0.out)))
                (case side2 => repeat ((with_reducible exact HB.out)))
                rintro e w21 ⟨rfl, hi, hb, hk⟩
                refine ⟨_, rfl, ?_⟩
                have n0_ := Aside0.mk (KeepBut.blk hk (g' := gb142) (o := .cells #[.bool false, .int .i64 0, .int .i64 0, .string (⟨#[]⟩ : ByteArray)] 25 (0, 0)) (by (with_reducible repeat (first | refine blk_drewN ?_ _ | refine blk_drew ?_ | refine blk_alloc ?_ _)); exact BK142.out) NB142_0.out (by simp))
                have n1_ := Aside0.mk (KeepBut.trans (by repeat ((with_reducible exact HK.out))) hk (.inl rfl))
                have n2_ := Aside0.mk (hb)
                have n3_ := Aside0.mk (hi)
                have z_HO148 := fun (h0_ : b 1 = true) => (show Kd.R (Kd.int .i64) 3 w21 w.heap.size (fun _ => True) v147 y146 from by exact (Kd.R_mono (Kd.R_keep (IsS38.apart (show IsS38 w0 _ g s0_0 t144 t145 from by repeat ((with_reducible exact HI0.out))) (by (with_reducible repeat (first | apply Kd.R_alloc | apply Kd.R_drewN | apply Kd.R_drew)); exact (Q_HO148 h0_)) (by decide)) hk (fun _ h => h.2)) (fun _ h => h.1)))
                clear BK142
                clear HK
                clear HB
                clear HI0
                have BK142 := n0_
                have HK := n1_
                have HB := n2_
                have HI0 := n3_
                clear n0_ n1_ n2_ n3_
                (try clear hb)
                (try clear hb2)
                (try clear hk)
                (try clear hi)
                refine hK.out _ _ ⟨v147, adz_v147, v163, adz_v163, m4_, m14_, (by rw [ha.out]; exact putSel_upk 1 hb_ rfl rfl rfl), fun _ => (by (with_reducible repeat (first | refine blk_drewN ?_ _ | refine blk_drew ?_ | refine blk_alloc ?_ _)); exact BK142.out), fun h0_ => absurd ((up_self b 3).symm.trans h0_) (by decide), (by repeat ((with_reducible exact HK.out))), (by repeat ((with_reducible exact HB.out))), z_HO148, Q_HA_HO148, fun _ _ => (by repeat ((with_reducible exact HI0.out))), fun h0_ _ => absurd ((hoff 6 (by kernel_rfl)).symm.trans h0_) (by decide), fun h0_ _ => absurd ((hoff 8 (by kernel_rfl)).symm.trans h0_) (by decide), fun h0_ _ => absurd ((hoff 10 (by kernel_rfl)).symm.trans h0_) (by decide), fun h0_ => absurd ((hoff 11 (by kernel_rfl)).symm.trans h0_) (by decide), fun h0_ => absurd ((hoff 11 (by kernel_rfl)).symm.trans h0_) (by decide), fun h0_ _ => absurd ((hoff 13 (by kernel_rfl)).symm.trans h0_) (by decide), fun h0_ => absurd ((hoff 17 (by kernel_rfl)).symm.trans h0_) (by decide), fun h0_ => absurd ((hoff 19 (by kernel_rfl)).symm.trans h0_) (by decide), fun h0_ => absurd ((hoff 4 (by kernel_rfl)).symm.trans h0_) (by decide), fun h0_ => absurd ((hoff 14 (by kernel_rfl)).symm.trans h0_) (by decide)⟩
              refine steps_cons ?_ ?_
              · rintro b a w' ⟨v147, adz_v147, v163, adz_v163, m4_, m14_, ha, Q_BK142, Q_HI0, Q_HK, Q_HB, Q_HO148, Q_HA_HO148, Q_HI0_e3, Q_HI0_e6, Q_HI0_e8, Q_HI0_e10, Q_HO164, Q_HA_HO164, Q_HI0_e13, Q_HI0_e17, Q_BK142_e19, Q_X4_, Q_X14_⟩ hb_ hon hoff
                refine ⟨_, rfl, fun K hK => ?_⟩
                have e7 : a.tmps[7]? = some (v147) := by rw [ha]; exact putSel_on (e := (1, 7, v147)) 0 rfl rfl (hon 1 (by kernel_rfl)) rfl
                have e9 : a.tmps[9]? = some (.int .i64 t149) := by rw [ha]; exact putSel_on (e := (3, 9, .int .i64 t149)) 1 rfl rfl (hon 3 (by kernel_rfl)) rfl
                replace ha := Aside0.mk ha
                have BK142 := Aside0.mk (Q_BK142 (hoff 19 (by kernel_rfl)))
                have HK := Aside0.mk Q_HK
                have HB := Aside0.mk Q_HB
                have HO148 := Aside0.mk (Q_HO148 (hon 1 (by kernel_rfl)))
                have HA_HO148 := Aside0.mk (Q_HA_HO148 (hon 1 (by kernel_rfl)))
                have HI0 := Aside0.mk (Q_HI0_e3 (hon 3 (by kernel_rfl)) (hoff 6 (by kernel_rfl)))
                obtain ⟨c_, hv_⟩ := HA_HO148.out
                rw [hv_] at e7
                refine value_ (w1 := w') (v := .pointer (some (adz_v147.add (t149).toNat))) (by rfl) rfl ?_ ?_
                · go_simp
                  (try simp only [i64_w])
                  try rfl
                refine hK.out _ _ ⟨v147, adz_v147, v163, adz_v163, (.pointer (some (adz_v147.add (t149).toNat))), m14_, (by rw [ha.out]; exact putSel_upk 2 hb_ rfl rfl rfl), Q_BK142, fun h0_ => absurd ((hon 3 (by kernel_rfl)).symm.trans h0_) (by decide), Q_HK, Q_HB, Q_HO148, Q_HA_HO148, Q_HI0_e3, fun h0_ _ => absurd ((hoff 6 (by kernel_rfl)).symm.trans h0_) (by decide), fun h0_ _ => absurd ((hoff 8 (by kernel_rfl)).symm.trans h0_) (by decide), fun h0_ _ => absurd ((hoff 10 (by kernel_rfl)).symm.trans h0_) (by decide), fun h0_ => absurd ((hoff 11 (by kernel_rfl)).symm.trans h0_) (by decide), fun h0_ => absurd ((hoff 11 (by kernel_rfl)).symm.trans h0_) (by decide), fun h0_ _ => absurd ((hoff 13 (by kernel_rfl)).symm.trans h0_) (by decide), fun h0_ => absurd ((hoff 17 (by kernel_rfl)).symm.trans h0_) (by decide), fun h0_ => absurd ((hoff 19 (by kernel_rfl)).symm.trans h0_) (by decide), fun _ => rfl, fun h0_ => absurd ((hoff 14 (by kernel_rfl)).symm.trans h0_) (by decide)⟩
              refine steps_cons ?_ ?_
              · rintro b a w' ⟨v147, adz_v147, v163, adz_v163, m4_, m14_, ha, Q_BK142, Q_HI0, Q_HK, Q_HB, Q_HO148, Q_HA_HO148, Q_HI0_e3, Q_HI0_e6, Q_HI0_e8, Q_HI0_e10, Q_HO164, Q_HA_HO164, Q_HI0_e13, Q_HI0_e17, Q_BK142_e19, Q_X4_, Q_X14_⟩ hb_ hon hoff
                refine ⟨_, rfl, fun K hK => ?_⟩
                have e10 : a.tmps[10]? = some (m4_) := by rw [ha]; exact putSel_on (e := (4, 10, m4_)) 2 rfl rfl (hon 4 (by kernel_rfl)) rfl
                rw [Q_X4_ (hon 4 (by kernel_rfl))] at e10
                replace ha := Aside0.mk ha
                have BK142 := Aside0.mk (Q_BK142 (hoff 19 (by kernel_rfl)))
                have HK := Aside0.mk Q_HK
                have HB := Aside0.mk Q_HB
                have HO148 := Aside0.mk (Q_HO148 (hon 1 (by kernel_rfl)))
                have HA_HO148 := Aside0.mk (Q_HA_HO148 (hon 1 (by kernel_rfl)))
                have HI0 := Aside0.mk (Q_HI0_e3 (hon 3 (by kernel_rfl)) (hoff 6 (by kernel_rfl)))
                obtain ⟨c_, hv_⟩ := HA_HO148.out
                have hF_ := HO148.out
                rw [hv_] at hF_
                obtain ⟨ad_, ea_, hx_⟩ := Kd.at_int (Kd.R_reads' hF_).2.2 t149 (of_eq_true pi152) (of_eq_true qi152)
                cases ea_
                refine value_ (w1 := w') (v := .int .i64 (rd y146 t149)) (by rfl) rfl ?_ ?_
                · go_simp
                  (try simp only [i64_w])
                  try rfl
                refine hK.out _ _ ⟨v147, adz_v147, v163, adz_v163, m4_, m14_, (by rw [ha.out]; exact putSel_upk 3 hb_ rfl rfl rfl), Q_BK142, fun h0_ => absurd ((hon 3 (by kernel_rfl)).symm.trans h0_) (by decide), Q_HK, Q_HB, Q_HO148, Q_HA_HO148, Q_HI0_e3, fun h0_ _ => absurd ((hoff 6 (by kernel_rfl)).symm.trans h0_) (by decide), fun h0_ _ => absurd ((hoff 8 (by kernel_rfl)).symm.trans h0_) (by decide), fun h0_ _ => absurd ((hoff 10 (by kernel_rfl)).symm.trans h0_) (by decide), fun h0_ => absurd ((hoff 11 (by kernel_rfl)).symm.trans h0_) (by decide), fun h0_ => absurd ((hoff 11 (by kernel_rfl)).symm.trans h0_) (by decide), fun h0_ _ => absurd ((hoff 13 (by kernel_rfl)).symm.trans h0_) (by decide), fun h0_ => absurd ((hoff 17 (by kernel_rfl)).symm.trans h0_) (by decide), fun h0_ => absurd ((hoff 19 (by kernel_rfl)).symm.trans h0_) (by decide), Q_X4_, fun h0_ => absurd ((hoff 14 (by kernel_rfl)).symm.trans h0_) (by decide)⟩
              refine steps_cons ?_ ?_
              · rintro b a w' ⟨v147, adz_v147, v163, adz_v163, m4_, m14_, ha, Q_BK142, Q_HI0, Q_HK, Q_HB, Q_HO148, Q_HA_HO148, Q_HI0_e3, Q_HI0_e6, Q_HI0_e8, Q_HI0_e10, Q_HO164, Q_HA_HO164, Q_HI0_e13, Q_HI0_e17, Q_BK142_e19, Q_X4_, Q_X14_⟩ hb_ hon hoff
                refine ⟨_, rfl, fun K hK => ?_⟩
                have e6 : a.tmps[6]? = some (.pointer (some ⟨g, 0, none⟩)) := by rw [ha]; exact (putSel_off rfl).trans rfl
                have e11 : a.tmps[11]? = some (.int .i64 (rd y146 t149)) := by rw [ha]; exact putSel_on (e := (5, 11, .int .i64 (rd y146 t149))) 3 rfl rfl (hon 5 (by kernel_rfl)) rfl
                replace ha := Aside0.mk ha
                have BK142 := Aside0.mk (Q_BK142 (hoff 19 (by kernel_rfl)))
                have HK := Aside0.mk Q_HK
                have HB := Aside0.mk Q_HB
                have HO148 := Aside0.mk (Q_HO148 (hon 1 (by kernel_rfl)))
                have HA_HO148 := Aside0.mk (Q_HA_HO148 (hon 1 (by kernel_rfl)))
                have HI0 := Aside0.mk (Q_HI0_e3 (hon 3 (by kernel_rfl)) hb_)
                obtain ⟨co26, eo26⟩ := HA_HO148.out
                clear HA_HO148
                subst eo26
                refine goes_ Try.func19 (by kernel_rfl) rfl #[.pointer (some ⟨g, 0, none⟩), .int .i64 (rd y146 t149)] (by rfl) rfl rfl (by (simp only [List.map_toArray, List.map_cons, List.map_nil, Act.eval, Array.getD_eq_getD_getElem?, Option.getD_some, e6, e11]; done)) ?_
                with_reducible refine (spec_l01Cur_pick.calls g s0_0 t150 t151 (rd y146 t149) t153 t154 t155 w0 _ ?side1 ?side2 A11.out).mono ?_
                (case side1 => repeat ((with_reducible exact HI0.out)))
                (case side2 => repeat ((with_reducible exact HB.out)))
                rintro e w27 ⟨rfl, hi, hb, hk⟩
                refine ⟨_, rfl, ?_⟩
                have n0_ := Aside0.mk (KeepBut.blk hk (g' := gb142) (o := .cells #[.bool false, .int .i64 0, .int .i64 0, .string (⟨#[]⟩ : ByteArray)] 25 (0, 0)) (by (with_reducible repeat (first | refine blk_drewN ?_ _ | refine blk_drew ?_ | refine blk_alloc ?_ _)); exact BK142.out) NB142_0.out (by simp))
                have n1_ := Aside0.mk (Kd.R_mono (Kd.R_keep (IsS38.apart (show IsS38 w0 _ g s0_0 t150 t151 from by repeat ((with_reducible exact HI0.out))) (by (with_reducible repeat (first | apply Kd.R_alloc | apply Kd.R_drewN | apply Kd.R_drew)); exact HO148.out) (by decide)) hk (fun _ h => h.2)) (fun _ h => h.1))
                have n2_ := Aside0.mk (KeepBut.trans (by repeat ((with_reducible exact HK.out))) hk (.inl rfl))
                have n3_ := Aside0.mk (hb)
                have n4_ := Aside0.mk (hi)
                clear BK142
                clear HO148
                clear HK
                clear HB
                clear HI0
                have BK142 := n0_
                have HO148 := n1_
                have HK := n2_
                have HB := n3_
                have HI0 := n4_
                clear n0_ n1_ n2_ n3_ n4_
                (try clear hb)
                (try clear hb2)
                (try clear hk)
                (try clear hi)
                refine hK.out _ _ ⟨.slice (some adz_v147) y146.length co26, adz_v147, v163, adz_v163, m4_, m14_, (by rw [ha.out]; exact putSel_upk 4 hb_ rfl rfl rfl), fun _ => (by (with_reducible repeat (first | refine blk_drewN ?_ _ | refine blk_drew ?_ | refine blk_alloc ?_ _)); exact BK142.out), fun h0_ => absurd ((hon 3 (by kernel_rfl)).symm.trans h0_) (by decide), (by repeat ((with_reducible exact HK.out))), (by repeat ((with_reducible exact HB.out))), fun _ => (by (with_reducible repeat (first | apply Kd.R_alloc | apply Kd.R_drewN | apply Kd.R_drew)); exact HO148.out), fun _ => ⟨_, rfl⟩, fun _ h1_ => absurd ((up_self b 6).symm.trans h1_) (by decide), fun _ _ => (by repeat ((with_reducible exact HI0.out))), fun h0_ _ => absurd ((hoff 8 (by kernel_rfl)).symm.trans h0_) (by decide), fun h0_ _ => absurd ((hoff 10 (by kernel_rfl)).symm.trans h0_) (by decide), fun h0_ => absurd ((hoff 11 (by kernel_rfl)).symm.trans h0_) (by decide), fun h0_ => absurd ((hoff 11 (by kernel_rfl)).symm.trans h0_) (by decide), fun h0_ _ => absurd ((hoff 13 (by kernel_rfl)).symm.trans h0_) (by decide), fun h0_ => absurd ((hoff 17 (by kernel_rfl)).symm.trans h0_) (by decide), fun h0_ => absurd ((hoff 19 (by kernel_rfl)).symm.trans h0_) (by decide), Q_X4_, fun h0_ => absurd ((hoff 14 (by kernel_rfl)).symm.trans h0_) (by decide)⟩
              refine steps_cons ?_ ?_
              · rintro b a w' ⟨v147, adz_v147, v163, adz_v163, m4_, m14_, ha, Q_BK142, Q_HI0, Q_HK, Q_HB, Q_HO148, Q_HA_HO148, Q_HI0_e3, Q_HI0_e6, Q_HI0_e8, Q_HI0_e10, Q_HO164, Q_HA_HO164, Q_HI0_e13, Q_HI0_e17, Q_BK142_e19, Q_X4_, Q_X14_⟩ hb_ hon hoff
                refine ⟨_, rfl, fun K hK => ?_⟩
                have e13 : a.tmps[13]? = some (.pointer (some ⟨g, 0, none⟩)) := by rw [ha]; exact (putSel_off rfl).trans rfl
                replace ha := Aside0.mk ha
                have BK142 := Aside0.mk (Q_BK142 (hoff 19 (by kernel_rfl)))
                have HK := Aside0.mk Q_HK
                have HB := Aside0.mk Q_HB
                have HO148 := Aside0.mk (Q_HO148 (hon 1 (by kernel_rfl)))
                have HA_HO148 := Aside0.mk (Q_HA_HO148 (hon 1 (by kernel_rfl)))
                have HI0 := Aside0.mk (Q_HI0_e6 (hon 6 (by kernel_rfl)) hb_)
                obtain ⟨co27, eo27⟩ := HA_HO148.out
                clear HA_HO148
                subst eo27
                refine goes_ Try.func19 (by kernel_rfl) rfl #[.pointer (some ⟨g, 0, none⟩), .int .i64 3] (by rfl) rfl rfl (by (simp only [List.map_toArray, List.map_cons, List.map_nil, Act.eval, Array.getD_eq_getD_getElem?, Option.getD_some, e13]; done)) ?_
                with_reducible refine (spec_l01Cur_pick.calls g s0_0 t154 t155 3 t156 t157 t158 w0 _ ?side1 ?side2 A12.out).mono ?_
                (case side1 => repeat ((with_reducible exact HI0.out)))
                (case side2 => repeat ((with_reducible exact HB.out)))
                rintro e w28 ⟨rfl, hi, hb, hk⟩
                refine ⟨_, rfl, ?_⟩
                have n0_ := Aside0.mk (KeepBut.blk hk (g' := gb142) (o := .cells #[.bool false, .int .i64 0, .int .i64 0, .string (⟨#[]⟩ : ByteArray)] 25 (0, 0)) (by (with_reducible repeat (first | refine blk_drewN ?_ _ | refine blk_drew ?_ | refine blk_alloc ?_ _)); exact BK142.out) NB142_0.out (by simp))
                have n1_ := Aside0.mk (Kd.R_mono (Kd.R_keep (IsS38.apart (show IsS38 w0 _ g s0_0 t154 t155 from by repeat ((with_reducible exact HI0.out))) (by (with_reducible repeat (first | apply Kd.R_alloc | apply Kd.R_drewN | apply Kd.R_drew)); exact HO148.out) (by decide)) hk (fun _ h => h.2)) (fun _ h => h.1))
                have n2_ := Aside0.mk (KeepBut.trans (by repeat ((with_reducible exact HK.out))) hk (.inl rfl))
                have n3_ := Aside0.mk (hb)
                have n4_ := Aside0.mk (hi)
                clear BK142
                clear HO148
                clear HK
                clear HB
                clear HI0
                have BK142 := n0_
                have HO148 := n1_
                have HK := n2_
                have HB := n3_
                have HI0 := n4_
                clear n0_ n1_ n2_ n3_ n4_
                (try clear hb)
                (try clear hb2)
                (try clear hk)
                (try clear hi)
                refine hK.out _ _ ⟨.slice (some adz_v147) y146.length co27, adz_v147, v163, adz_v163, m4_, m14_, (by rw [ha.out]; exact putSel_upk 5 hb_ rfl rfl rfl), fun _ => (by (with_reducible repeat (first | refine blk_drewN ?_ _ | refine blk_drew ?_ | refine blk_alloc ?_ _)); exact BK142.out), fun h0_ => absurd ((hon 3 (by kernel_rfl)).symm.trans h0_) (by decide), (by repeat ((with_reducible exact HK.out))), (by repeat ((with_reducible exact HB.out))), fun _ => (by (with_reducible repeat (first | apply Kd.R_alloc | apply Kd.R_drewN | apply Kd.R_drew)); exact HO148.out), fun _ => ⟨_, rfl⟩, fun _ h1_ => absurd ((hon 6 (by kernel_rfl)).symm.trans h1_) (by decide), fun _ h1_ => absurd ((up_self b 8).symm.trans h1_) (by decide), fun _ _ => (by repeat ((with_reducible exact HI0.out))), fun h0_ _ => absurd ((hoff 10 (by kernel_rfl)).symm.trans h0_) (by decide), fun h0_ => absurd ((hoff 11 (by kernel_rfl)).symm.trans h0_) (by decide), fun h0_ => absurd ((hoff 11 (by kernel_rfl)).symm.trans h0_) (by decide), fun h0_ _ => absurd ((hoff 13 (by kernel_rfl)).symm.trans h0_) (by decide), fun h0_ => absurd ((hoff 17 (by kernel_rfl)).symm.trans h0_) (by decide), fun h0_ => absurd ((hoff 19 (by kernel_rfl)).symm.trans h0_) (by decide), Q_X4_, fun h0_ => absurd ((hoff 14 (by kernel_rfl)).symm.trans h0_) (by decide)⟩
              refine steps_cons ?_ ?_
              · rintro b a w' ⟨v147, adz_v147, v163, adz_v163, m4_, m14_, ha, Q_BK142, Q_HI0, Q_HK, Q_HB, Q_HO148, Q_HA_HO148, Q_HI0_e3, Q_HI0_e6, Q_HI0_e8, Q_HI0_e10, Q_HO164, Q_HA_HO164, Q_HI0_e13, Q_HI0_e17, Q_BK142_e19, Q_X4_, Q_X14_⟩ hb_ hon hoff
                refine ⟨_, rfl, fun K hK => ?_⟩
                have e15 : a.tmps[15]? = some (.pointer (some ⟨g, 0, none⟩)) := by rw [ha]; exact (putSel_off rfl).trans rfl
                replace ha := Aside0.mk ha
                have BK142 := Aside0.mk (Q_BK142 (hoff 19 (by kernel_rfl)))
                have HK := Aside0.mk Q_HK
                have HB := Aside0.mk Q_HB
                have HO148 := Aside0.mk (Q_HO148 (hon 1 (by kernel_rfl)))
                have HA_HO148 := Aside0.mk (Q_HA_HO148 (hon 1 (by kernel_rfl)))
                have HI0 := Aside0.mk (Q_HI0_e8 (hon 8 (by kernel_rfl)) hb_)
                obtain ⟨co28, eo28⟩ := HA_HO148.out
                clear HA_HO148
                subst eo28
                refine goes_ Try.func27 (by kernel_rfl) rfl #[.pointer (some ⟨g, 0, none⟩), .int .i64 65536] (by rfl) rfl rfl (by (simp only [List.map_toArray, List.map_cons, List.map_nil, Act.eval, Array.getD_eq_getD_getElem?, Option.getD_some, e15]; done)) ?_
                with_reducible refine (spec_l01Cur_wide.calls g s0_0 t157 t158 65536 t159 t160 t161 w0 _ ?side1 ?side2 A13.out).mono ?_
                (case side1 => repeat ((with_reducible exact HI0.out)))
                (case side2 => repeat ((with_reducible exact HB.out)))
                rintro e w29 ⟨rfl, hi, hb, hk⟩
                refine ⟨_, rfl, ?_⟩
                have n0_ := Aside0.mk (KeepBut.blk hk (g' := gb142) (o := .cells #[.bool false, .int .i64 0, .int .i64 0, .string (⟨#[]⟩ : ByteArray)] 25 (0, 0)) (by (with_reducible repeat (first | refine blk_drewN ?_ _ | refine blk_drew ?_ | refine blk_alloc ?_ _)); exact BK142.out) NB142_0.out (by simp))
                have n1_ := Aside0.mk (Kd.R_mono (Kd.R_keep (IsS38.apart (show IsS38 w0 _ g s0_0 t157 t158 from by repeat ((with_reducible exact HI0.out))) (by (with_reducible repeat (first | apply Kd.R_alloc | apply Kd.R_drewN | apply Kd.R_drew)); exact HO148.out) (by decide)) hk (fun _ h => h.2)) (fun _ h => h.1))
                have n2_ := Aside0.mk (KeepBut.trans (by repeat ((with_reducible exact HK.out))) hk (.inl rfl))
                have n3_ := Aside0.mk (hb)
                have n4_ := Aside0.mk (hi)
                clear BK142
                clear HO148
                clear HK
                clear HB
                clear HI0
                have BK142 := n0_
                have HO148 := n1_
                have HK := n2_
                have HB := n3_
                have HI0 := n4_
                clear n0_ n1_ n2_ n3_ n4_
                (try clear hb)
                (try clear hb2)
                (try clear hk)
                (try clear hi)
                refine hK.out _ _ ⟨.slice (some adz_v147) y146.length co28, adz_v147, v163, adz_v163, m4_, m14_, (by rw [ha.out]; exact putSel_upk 6 hb_ rfl rfl rfl), fun _ => (by (with_reducible repeat (first | refine blk_drewN ?_ _ | refine blk_drew ?_ | refine blk_alloc ?_ _)); exact BK142.out), fun h0_ => absurd ((hon 3 (by kernel_rfl)).symm.trans h0_) (by decide), (by repeat ((with_reducible exact HK.out))), (by repeat ((with_reducible exact HB.out))), fun _ => (by (with_reducible repeat (first | apply Kd.R_alloc | apply Kd.R_drewN | apply Kd.R_drew)); exact HO148.out), fun _ => ⟨_, rfl⟩, fun _ h1_ => absurd ((hon 6 (by kernel_rfl)).symm.trans h1_) (by decide), fun _ h1_ => absurd ((hon 8 (by kernel_rfl)).symm.trans h1_) (by decide), fun _ h1_ => absurd ((up_self b 10).symm.trans h1_) (by decide), fun _ _ => (by repeat ((with_reducible exact HI0.out))), fun h0_ => absurd ((hoff 11 (by kernel_rfl)).symm.trans h0_) (by decide), fun h0_ => absurd ((hoff 11 (by kernel_rfl)).symm.trans h0_) (by decide), fun h0_ _ => absurd ((hoff 13 (by kernel_rfl)).symm.trans h0_) (by decide), fun h0_ => absurd ((hoff 17 (by kernel_rfl)).symm.trans h0_) (by decide), fun h0_ => absurd ((hoff 19 (by kernel_rfl)).symm.trans h0_) (by decide), Q_X4_, fun h0_ => absurd ((hoff 14 (by kernel_rfl)).symm.trans h0_) (by decide)⟩
              refine steps_cons ?_ ?_
              · rintro b a w' ⟨v147, adz_v147, v163, adz_v163, m4_, m14_, ha, Q_BK142, Q_HI0, Q_HK, Q_HB, Q_HO148, Q_HA_HO148, Q_HI0_e3, Q_HI0_e6, Q_HI0_e8, Q_HI0_e10, Q_HO164, Q_HA_HO164, Q_HI0_e13, Q_HI0_e17, Q_BK142_e19, Q_X4_, Q_X14_⟩ hb_ hon hoff
                refine ⟨_, rfl, fun K hK => ?_⟩
                have e14 : a.tmps[14]? = some (.int .i64 t156) := by rw [ha]; exact putSel_on (e := (8, 14, .int .i64 t156)) 5 rfl rfl (hon 8 (by kernel_rfl)) rfl
                have e16 : a.tmps[16]? = some (.int .i64 t159) := by rw [ha]; exact putSel_on (e := (10, 16, .int .i64 t159)) 6 rfl rfl (hon 10 (by kernel_rfl)) rfl
                replace ha := Aside0.mk ha
                have BK142 := Aside0.mk (Q_BK142 (hoff 19 (by kernel_rfl)))
                have HK := Aside0.mk Q_HK
                have HB := Aside0.mk Q_HB
                have HO148 := Aside0.mk (Q_HO148 (hon 1 (by kernel_rfl)))
                have HA_HO148 := Aside0.mk (Q_HA_HO148 (hon 1 (by kernel_rfl)))
                obtain ⟨co29, eo29⟩ := HA_HO148.out
                clear HA_HO148
                subst eo29
                refine Kd.R_lit_step (Kd.int .i64) _ 3 ?hg (N := 17) ?hd (xs := ([t156, t159, 65535] : List Int)) (inner := [.int .i64 t156, .int .i64 t159, .int .i64 65535]) (ok := fun _ => True) (okp := fun _ => True) ?hr ?hp (fun _ hk => hk) trivial (Below.refl _ _) (Nat.le_refl _) (by simp) ?_; (case hd => rfl); (case hg => rfl); (case hr => (go_simp; done)); (case hp => exact (Reps.one (show Kd.M (Kd.int .i64) _ _ _ t156 [.int .i64 t156] from rfl) (Reps.one (show Kd.M (Kd.int .i64) _ _ _ t159 [.int .i64 t159] from rfl) (Reps.one (show Kd.M (Kd.int .i64) _ _ _ 65535 [.int .i64 65535] from rfl) (Reps.none _ _)))))
                intro v163 w30 ho31 hb hg_ hnew_
                clear hg_ hnew_
                (rw [← Ny162.out] at ho31)
                have n0_ := Aside0.mk (Kd.R_elder' (by (with_reducible repeat (first | apply Kd.R_alloc | apply Kd.R_drewN | apply Kd.R_drew)); exact HO148.out) (Kd.R_base ho31) hb)
                have n1_ := Aside0.mk (Kd.R_lower (Kd.R_new' ho31 (Kd.R_lt (by (with_reducible repeat (first | apply Kd.R_alloc | apply Kd.R_drewN | apply Kd.R_drew)); exact HO148.out))) (keep_size (w := w) (g := g) (row := none) (by repeat ((with_reducible exact HK.out)))))
                have n3_ := Aside0.mk (blk_below (g := gb142) (o := .cells #[.bool false, .int .i64 0, .int .i64 0, .string (⟨#[]⟩ : ByteArray)] 25 (0, 0)) (by (with_reducible repeat (first | refine blk_drewN ?_ _ | refine blk_drew ?_ | refine blk_alloc ?_ _)); exact BK142.out) hb)
                have n4_ := Aside0.mk (KeepBut.trans (by repeat ((with_reducible exact HK.out))) (KeepBut.of_below hb g none) (.inl rfl))
                have n5_ := Aside0.mk (below_step (by repeat ((with_reducible exact HB.out))) hb)
                have z_HI0_e10 := fun (h0_ : b 10 = true) (h1_ : b 13 = false) => (show IsS38 w0 w30 g s0_0 t160 t161 from by exact (IsS38.below (by repeat ((with_reducible exact (Q_HI0_e10 h0_ h1_)))) hb))
                have z_HI0_e13 := fun (h0_ : b 13 = true) (h1_ : b 17 = false) => (show IsS38 w0 w30 g s0_0 t166 t167 from by exact (IsS38.below (by repeat ((with_reducible exact (Q_HI0_e13 h0_ h1_)))) hb))
                have z_HI0_e17 := fun (h0_ : b 17 = true) => (show IsS38 w0 w30 g s0_0 t170 t171 from by exact (IsS38.below (by repeat ((with_reducible exact (Q_HI0_e17 h0_)))) hb))
                clear HO148
                clear BK142
                clear HK
                clear HB
                have HO148 := n0_
                have HO164 := n1_
                have BK142 := n3_
                have HK := n4_
                have HB := n5_
                clear n0_ n1_ n3_ n4_ n5_
                clear hb ho31
                obtain ⟨Ao32, co32, eo32⟩ := Kd.R_slice HO164.out
                subst eo32
                obtain ⟨ado32, fo32, _⟩ := Kd.at_int (Kd.R_reads' HO164.out).2.2 0 (by decide) (by rw [Ny162.out]; simp)
                cases fo32
                refine hK.out _ _ ⟨.slice (some adz_v147) y146.length co29, adz_v147, .slice (some ado32) y162.length co32, ado32, m4_, m14_, (by rw [ha.out]; exact putSel_upk 7 hb_ rfl rfl rfl), fun _ => (by (with_reducible repeat (first | refine blk_drewN ?_ _ | refine blk_drew ?_ | refine blk_alloc ?_ _)); exact BK142.out), fun h0_ => absurd ((hon 3 (by kernel_rfl)).symm.trans h0_) (by decide), (by repeat ((with_reducible exact HK.out))), (by repeat ((with_reducible exact HB.out))), fun _ => (by (with_reducible repeat (first | apply Kd.R_alloc | apply Kd.R_drewN | apply Kd.R_drew)); exact Kd.R_mono HO148.out (fun _ hk => by trivial)), fun _ => ⟨_, rfl⟩, fun _ h1_ => absurd ((hon 6 (by kernel_rfl)).symm.trans h1_) (by decide), fun _ h1_ => absurd ((hon 8 (by kernel_rfl)).symm.trans h1_) (by decide), fun _ h1_ => absurd ((hon 10 (by kernel_rfl)).symm.trans h1_) (by decide), z_HI0_e10, fun _ => (by (with_reducible repeat (first | apply Kd.R_alloc | apply Kd.R_drewN | apply Kd.R_drew)); exact Kd.R_mono HO164.out (fun _ hk => by trivial)), fun _ => ⟨_, rfl⟩, z_HI0_e13, z_HI0_e17, fun h0_ => absurd ((hoff 19 (by kernel_rfl)).symm.trans h0_) (by decide), Q_X4_, fun h0_ => absurd ((hoff 14 (by kernel_rfl)).symm.trans h0_) (by decide)⟩
              refine steps_cons ?_ ?_
              · rintro b a w' ⟨v147, adz_v147, v163, adz_v163, m4_, m14_, ha, Q_BK142, Q_HI0, Q_HK, Q_HB, Q_HO148, Q_HA_HO148, Q_HI0_e3, Q_HI0_e6, Q_HI0_e8, Q_HI0_e10, Q_HO164, Q_HA_HO164, Q_HI0_e13, Q_HI0_e17, Q_BK142_e19, Q_X4_, Q_X14_⟩ hb_ hon hoff
                refine ⟨_, rfl, fun K hK => ?_⟩
                have e18 : a.tmps[18]? = some (.pointer (some ⟨g, 0, none⟩)) := by rw [ha]; exact (putSel_off rfl).trans rfl
                replace ha := Aside0.mk ha
                have BK142 := Aside0.mk (Q_BK142 (hoff 19 (by kernel_rfl)))
                have HK := Aside0.mk Q_HK
                have HB := Aside0.mk Q_HB
                have HO148 := Aside0.mk (Q_HO148 (hon 1 (by kernel_rfl)))
                have HA_HO148 := Aside0.mk (Q_HA_HO148 (hon 1 (by kernel_rfl)))
                have HI0 := Aside0.mk (Q_HI0_e10 (hon 10 (by kernel_rfl)) hb_)
                obtain ⟨co29, eo29⟩ := HA_HO148.out
                clear HA_HO148
                subst eo29
                refine goes_ Try.func19 (by kernel_rfl) rfl #[.pointer (some ⟨g, 0, none⟩), .int .i64 3] (by rfl) rfl rfl (by (simp only [List.map_toArray, List.map_cons, List.map_nil, Act.eval, Array.getD_eq_getD_getElem?, Option.getD_some, e18]; done)) ?_
                with_reducible refine (spec_l01Cur_pick.calls g s0_0 t160 t161 3 t165 t166 t167 w0 _ ?side1 ?side2 A14.out).mono ?_
                (case side1 => repeat ((with_reducible exact HI0.out)))
                (case side2 => repeat ((with_reducible exact HB.out)))
                rintro e w30 ⟨rfl, hi, hb, hk⟩
                refine ⟨_, rfl, ?_⟩
                have n0_ := Aside0.mk (KeepBut.blk hk (g' := gb142) (o := .cells #[.bool false, .int .i64 0, .int .i64 0, .string (⟨#[]⟩ : ByteArray)] 25 (0, 0)) (by (with_reducible repeat (first | refine blk_drewN ?_ _ | refine blk_drew ?_ | refine blk_alloc ?_ _)); exact BK142.out) NB142_0.out (by simp))
                have n1_ := Aside0.mk (Kd.R_mono (Kd.R_keep (IsS38.apart (show IsS38 w0 _ g s0_0 t160 t161 from by repeat ((with_reducible exact HI0.out))) (by (with_reducible repeat (first | apply Kd.R_alloc | apply Kd.R_drewN | apply Kd.R_drew)); exact HO148.out) (by decide)) hk (fun _ h => h.2)) (fun _ h => h.1))
                have n2_ := Aside0.mk (KeepBut.trans (by repeat ((with_reducible exact HK.out))) hk (.inl rfl))
                have n3_ := Aside0.mk (hb)
                have n4_ := Aside0.mk (hi)
                have z_HO164 := fun (h0_ : b 11 = true) => (show Kd.R (Kd.int .i64) 3 w30 w.heap.size (fun _ => True) v163 y162 from by exact (Kd.R_mono (Kd.R_keep (IsS38.apart (show IsS38 w0 _ g s0_0 t160 t161 from by repeat ((with_reducible exact HI0.out))) (by (with_reducible repeat (first | apply Kd.R_alloc | apply Kd.R_drewN | apply Kd.R_drew)); exact (Q_HO164 h0_)) (by decide)) hk (fun _ h => h.2)) (fun _ h => h.1)))
                clear BK142
                clear HO148
                clear HK
                clear HB
                clear HI0
                have BK142 := n0_
                have HO148 := n1_
                have HK := n2_
                have HB := n3_
                have HI0 := n4_
                clear n0_ n1_ n2_ n3_ n4_
                (try clear hb)
                (try clear hb2)
                (try clear hk)
                (try clear hi)
                refine hK.out _ _ ⟨.slice (some adz_v147) y146.length co29, adz_v147, v163, adz_v163, m4_, m14_, (by rw [ha.out]; exact putSel_upk 8 hb_ rfl rfl rfl), fun _ => (by (with_reducible repeat (first | refine blk_drewN ?_ _ | refine blk_drew ?_ | refine blk_alloc ?_ _)); exact BK142.out), fun h0_ => absurd ((hon 3 (by kernel_rfl)).symm.trans h0_) (by decide), (by repeat ((with_reducible exact HK.out))), (by repeat ((with_reducible exact HB.out))), fun _ => (by (with_reducible repeat (first | apply Kd.R_alloc | apply Kd.R_drewN | apply Kd.R_drew)); exact HO148.out), fun _ => ⟨_, rfl⟩, fun _ h1_ => absurd ((hon 6 (by kernel_rfl)).symm.trans h1_) (by decide), fun _ h1_ => absurd ((hon 8 (by kernel_rfl)).symm.trans h1_) (by decide), fun _ h1_ => absurd ((hon 10 (by kernel_rfl)).symm.trans h1_) (by decide), fun _ h1_ => absurd ((up_self b 13).symm.trans h1_) (by decide), z_HO164, Q_HA_HO164, fun _ _ => (by repeat ((with_reducible exact HI0.out))), fun h0_ => absurd ((hoff 17 (by kernel_rfl)).symm.trans h0_) (by decide), fun h0_ => absurd ((hoff 19 (by kernel_rfl)).symm.trans h0_) (by decide), Q_X4_, fun h0_ => absurd ((hoff 14 (by kernel_rfl)).symm.trans h0_) (by decide)⟩
              refine steps_cons ?_ ?_
              · rintro b a w' ⟨v147, adz_v147, v163, adz_v163, m4_, m14_, ha, Q_BK142, Q_HI0, Q_HK, Q_HB, Q_HO148, Q_HA_HO148, Q_HI0_e3, Q_HI0_e6, Q_HI0_e8, Q_HI0_e10, Q_HO164, Q_HA_HO164, Q_HI0_e13, Q_HI0_e17, Q_BK142_e19, Q_X4_, Q_X14_⟩ hb_ hon hoff
                refine ⟨_, rfl, fun K hK => ?_⟩
                have e17 : a.tmps[17]? = some (v163) := by rw [ha]; exact putSel_on (e := (11, 17, v163)) 7 rfl rfl (hon 11 (by kernel_rfl)) rfl
                have e19 : a.tmps[19]? = some (.int .i64 t165) := by rw [ha]; exact putSel_on (e := (13, 19, .int .i64 t165)) 8 rfl rfl (hon 13 (by kernel_rfl)) rfl
                replace ha := Aside0.mk ha
                have BK142 := Aside0.mk (Q_BK142 (hoff 19 (by kernel_rfl)))
                have HK := Aside0.mk Q_HK
                have HB := Aside0.mk Q_HB
                have HO148 := Aside0.mk (Q_HO148 (hon 1 (by kernel_rfl)))
                have HA_HO148 := Aside0.mk (Q_HA_HO148 (hon 1 (by kernel_rfl)))
                have HO164 := Aside0.mk (Q_HO164 (hon 11 (by kernel_rfl)))
                have HA_HO164 := Aside0.mk (Q_HA_HO164 (hon 11 (by kernel_rfl)))
                obtain ⟨c_, hv_⟩ := HA_HO164.out
                rw [hv_] at e17
                refine value_ (w1 := w') (v := .pointer (some (adz_v163.add (t165).toNat))) (by rfl) rfl ?_ ?_
                · go_simp
                  (try simp only [i64_w])
                  try rfl
                refine hK.out _ _ ⟨v147, adz_v147, v163, adz_v163, m4_, (.pointer (some (adz_v163.add (t165).toNat))), (by rw [ha.out]; exact putSel_upk 9 hb_ rfl rfl rfl), Q_BK142, fun h0_ => absurd ((hon 3 (by kernel_rfl)).symm.trans h0_) (by decide), Q_HK, Q_HB, Q_HO148, Q_HA_HO148, fun _ h1_ => absurd ((hon 6 (by kernel_rfl)).symm.trans h1_) (by decide), fun _ h1_ => absurd ((hon 8 (by kernel_rfl)).symm.trans h1_) (by decide), fun _ h1_ => absurd ((hon 10 (by kernel_rfl)).symm.trans h1_) (by decide), fun _ h1_ => absurd ((hon 13 (by kernel_rfl)).symm.trans h1_) (by decide), Q_HO164, Q_HA_HO164, Q_HI0_e13, Q_HI0_e17, fun h0_ => absurd ((hoff 19 (by kernel_rfl)).symm.trans h0_) (by decide), Q_X4_, fun _ => rfl⟩
              refine steps_cons ?_ ?_
              · rintro b a w' ⟨v147, adz_v147, v163, adz_v163, m4_, m14_, ha, Q_BK142, Q_HI0, Q_HK, Q_HB, Q_HO148, Q_HA_HO148, Q_HI0_e3, Q_HI0_e6, Q_HI0_e8, Q_HI0_e10, Q_HO164, Q_HA_HO164, Q_HI0_e13, Q_HI0_e17, Q_BK142_e19, Q_X4_, Q_X14_⟩ hb_ hon hoff
                refine ⟨_, rfl, fun K hK => ?_⟩
                have e20 : a.tmps[20]? = some (m14_) := by rw [ha]; exact putSel_on (e := (14, 20, m14_)) 9 rfl rfl (hon 14 (by kernel_rfl)) rfl
                rw [Q_X14_ (hon 14 (by kernel_rfl))] at e20
                replace ha := Aside0.mk ha
                have BK142 := Aside0.mk (Q_BK142 (hoff 19 (by kernel_rfl)))
                have HK := Aside0.mk Q_HK
                have HB := Aside0.mk Q_HB
                have HO148 := Aside0.mk (Q_HO148 (hon 1 (by kernel_rfl)))
                have HA_HO148 := Aside0.mk (Q_HA_HO148 (hon 1 (by kernel_rfl)))
                have HO164 := Aside0.mk (Q_HO164 (hon 11 (by kernel_rfl)))
                have HA_HO164 := Aside0.mk (Q_HA_HO164 (hon 11 (by kernel_rfl)))
                obtain ⟨c_, hv_⟩ := HA_HO164.out
                have hF_ := HO164.out
                rw [hv_] at hF_
                obtain ⟨ad_, ea_, hx_⟩ := Kd.at_int (Kd.R_reads' hF_).2.2 t165 (of_eq_true pi168) (of_eq_true qi168)
                cases ea_
                refine value_ (w1 := w') (v := .int .i64 (rd y162 t165)) (by rfl) rfl ?_ ?_
                · go_simp
                  (try simp only [i64_w])
                  try rfl
                refine hK.out _ _ ⟨v147, adz_v147, v163, adz_v163, m4_, m14_, (by rw [ha.out]; exact putSel_upk 10 hb_ rfl rfl rfl), Q_BK142, fun h0_ => absurd ((hon 3 (by kernel_rfl)).symm.trans h0_) (by decide), Q_HK, Q_HB, Q_HO148, Q_HA_HO148, fun _ h1_ => absurd ((hon 6 (by kernel_rfl)).symm.trans h1_) (by decide), fun _ h1_ => absurd ((hon 8 (by kernel_rfl)).symm.trans h1_) (by decide), fun _ h1_ => absurd ((hon 10 (by kernel_rfl)).symm.trans h1_) (by decide), fun _ h1_ => absurd ((hon 13 (by kernel_rfl)).symm.trans h1_) (by decide), Q_HO164, Q_HA_HO164, Q_HI0_e13, Q_HI0_e17, fun h0_ => absurd ((hoff 19 (by kernel_rfl)).symm.trans h0_) (by decide), Q_X4_, Q_X14_⟩
              refine steps_cons ?_ ?_
              · rintro b a w' ⟨v147, adz_v147, v163, adz_v163, m4_, m14_, ha, Q_BK142, Q_HI0, Q_HK, Q_HB, Q_HO148, Q_HA_HO148, Q_HI0_e3, Q_HI0_e6, Q_HI0_e8, Q_HI0_e10, Q_HO164, Q_HA_HO164, Q_HI0_e13, Q_HI0_e17, Q_BK142_e19, Q_X4_, Q_X14_⟩ hb_ hon hoff
                refine ⟨_, rfl, fun K hK => ?_⟩
                have e22 : a.tmps[22]? = some (.pointer (some ⟨g, 0, none⟩)) := by rw [ha]; exact (putSel_off rfl).trans rfl
                replace ha := Aside0.mk ha
                have BK142 := Aside0.mk (Q_BK142 (hoff 19 (by kernel_rfl)))
                have HK := Aside0.mk Q_HK
                have HB := Aside0.mk Q_HB
                have HO148 := Aside0.mk (Q_HO148 (hon 1 (by kernel_rfl)))
                have HA_HO148 := Aside0.mk (Q_HA_HO148 (hon 1 (by kernel_rfl)))
                have HI0 := Aside0.mk (Q_HI0_e13 (hon 13 (by kernel_rfl)) hb_)
                obtain ⟨co30, eo30⟩ := HA_HO148.out
                clear HA_HO148
                subst eo30
                refine goes_ Try.func28 (by kernel_rfl) rfl #[.pointer (some ⟨g, 0, none⟩)] (by rfl) rfl rfl (by (simp only [List.map_toArray, List.map_cons, List.map_nil, Act.eval, Array.getD_eq_getD_getElem?, Option.getD_some, e22]; done)) ?_
                with_reducible refine (spec_l01Cur_word.calls k g s0_0 t166 t167 t169 t170 t171 w0 _ ?side1 ?side2 A17.out).mono ?_
                (case side1 => repeat ((with_reducible exact HI0.out)))
                (case side2 => repeat ((with_reducible exact HB.out)))
                rintro e w31 ⟨rfl, hi, hb, hk⟩
                refine ⟨_, rfl, ?_⟩
                have n0_ := Aside0.mk (KeepBut.blk hk (g' := gb142) (o := .cells #[.bool false, .int .i64 0, .int .i64 0, .string (⟨#[]⟩ : ByteArray)] 25 (0, 0)) (by (with_reducible repeat (first | refine blk_drewN ?_ _ | refine blk_drew ?_ | refine blk_alloc ?_ _)); exact BK142.out) NB142_0.out (by simp))
                have n1_ := Aside0.mk (Kd.R_mono (Kd.R_keep (IsS38.apart (show IsS38 w0 _ g s0_0 t166 t167 from by repeat ((with_reducible exact HI0.out))) (by (with_reducible repeat (first | apply Kd.R_alloc | apply Kd.R_drewN | apply Kd.R_drew)); exact HO148.out) (by decide)) hk (fun _ h => h.2)) (fun _ h => h.1))
                have n2_ := Aside0.mk (KeepBut.trans (by repeat ((with_reducible exact HK.out))) hk (.inl rfl))
                have n3_ := Aside0.mk (hb)
                have n4_ := Aside0.mk (hi)
                have z_HO164 := fun (h0_ : b 11 = true) => (show Kd.R (Kd.int .i64) 3 w31 w.heap.size (fun _ => True) v163 y162 from by exact (Kd.R_mono (Kd.R_keep (IsS38.apart (show IsS38 w0 _ g s0_0 t166 t167 from by repeat ((with_reducible exact HI0.out))) (by (with_reducible repeat (first | apply Kd.R_alloc | apply Kd.R_drewN | apply Kd.R_drew)); exact (Q_HO164 h0_)) (by decide)) hk (fun _ h => h.2)) (fun _ h => h.1)))
                clear BK142
                clear HO148
                clear HK
                clear HB
                clear HI0
                have BK142 := n0_
                have HO148 := n1_
                have HK := n2_
                have HB := n3_
                have HI0 := n4_
                clear n0_ n1_ n2_ n3_ n4_
                (try clear hb)
                (try clear hb2)
                (try clear hk)
                (try clear hi)
                refine hK.out _ _ ⟨.slice (some adz_v147) y146.length co30, adz_v147, v163, adz_v163, m4_, m14_, (by rw [ha.out]; exact putSel_upk 11 hb_ rfl rfl rfl), fun _ => (by (with_reducible repeat (first | refine blk_drewN ?_ _ | refine blk_drew ?_ | refine blk_alloc ?_ _)); exact BK142.out), fun h0_ => absurd ((hon 3 (by kernel_rfl)).symm.trans h0_) (by decide), (by repeat ((with_reducible exact HK.out))), (by repeat ((with_reducible exact HB.out))), fun _ => (by (with_reducible repeat (first | apply Kd.R_alloc | apply Kd.R_drewN | apply Kd.R_drew)); exact HO148.out), fun _ => ⟨_, rfl⟩, fun _ h1_ => absurd ((hon 6 (by kernel_rfl)).symm.trans h1_) (by decide), fun _ h1_ => absurd ((hon 8 (by kernel_rfl)).symm.trans h1_) (by decide), fun _ h1_ => absurd ((hon 10 (by kernel_rfl)).symm.trans h1_) (by decide), fun _ h1_ => absurd ((hon 13 (by kernel_rfl)).symm.trans h1_) (by decide), z_HO164, Q_HA_HO164, fun _ h1_ => absurd ((up_self b 17).symm.trans h1_) (by decide), fun _ => (by repeat ((with_reducible exact HI0.out))), fun h0_ => absurd ((hoff 19 (by kernel_rfl)).symm.trans h0_) (by decide), Q_X4_, Q_X14_⟩
              refine steps_cons ?_ ?_
              · rintro b a w' ⟨v147, adz_v147, v163, adz_v163, m4_, m14_, ha, Q_BK142, Q_HI0, Q_HK, Q_HB, Q_HO148, Q_HA_HO148, Q_HI0_e3, Q_HI0_e6, Q_HI0_e8, Q_HI0_e10, Q_HO164, Q_HA_HO164, Q_HI0_e13, Q_HI0_e17, Q_BK142_e19, Q_X4_, Q_X14_⟩ hb_ hon hoff
                refine ⟨_, rfl, fun K hK => ?_⟩
                have e12 : a.tmps[12]? = some (.int .i64 t153) := by rw [ha]; exact putSel_on (e := (6, 12, .int .i64 t153)) 4 rfl rfl (hon 6 (by kernel_rfl)) rfl
                have e21 : a.tmps[21]? = some (.int .i64 (rd y162 t165)) := by rw [ha]; exact putSel_on (e := (15, 21, .int .i64 (rd y162 t165))) 10 rfl rfl (hon 15 (by kernel_rfl)) rfl
                have e23 : a.tmps[23]? = some (.string t169) := by rw [ha]; exact putSel_on (e := (17, 23, .string t169)) 11 rfl rfl (hon 17 (by kernel_rfl)) rfl
                replace ha := Aside0.mk ha
                have BK142 := Aside0.mk (Q_BK142 (hoff 19 (by kernel_rfl)))
                have HK := Aside0.mk Q_HK
                have HB := Aside0.mk Q_HB
                have HO148 := Aside0.mk (Q_HO148 (hon 1 (by kernel_rfl)))
                have HA_HO148 := Aside0.mk (Q_HA_HO148 (hon 1 (by kernel_rfl)))
                have HO164 := Aside0.mk (Q_HO164 (hon 11 (by kernel_rfl)))
                have HA_HO164 := Aside0.mk (Q_HA_HO164 (hon 11 (by kernel_rfl)))
                have HI0 := Aside0.mk (Q_HI0_e17 (hon 17 (by kernel_rfl)))
                refine value_ (w1 := w') (v := .agg #[.bool true, .int .i64 t153, .int .i64 (rd y162 t165), .string t169]) (by rfl) rfl ?_ ?_
                · go_simp
                  (try simp only [i64_w])
                  try rfl
                refine hK.out _ _ ⟨v147, adz_v147, v163, adz_v163, m4_, m14_, (by rw [ha.out]; exact putSel_upk 12 hb_ rfl rfl rfl), Q_BK142, fun h0_ => absurd ((hon 3 (by kernel_rfl)).symm.trans h0_) (by decide), Q_HK, Q_HB, Q_HO148, Q_HA_HO148, fun _ h1_ => absurd ((hon 6 (by kernel_rfl)).symm.trans h1_) (by decide), fun _ h1_ => absurd ((hon 8 (by kernel_rfl)).symm.trans h1_) (by decide), fun _ h1_ => absurd ((hon 10 (by kernel_rfl)).symm.trans h1_) (by decide), fun _ h1_ => absurd ((hon 13 (by kernel_rfl)).symm.trans h1_) (by decide), Q_HO164, Q_HA_HO164, fun _ h1_ => absurd ((hon 17 (by kernel_rfl)).symm.trans h1_) (by decide), Q_HI0_e17, fun h0_ => absurd ((hoff 19 (by kernel_rfl)).symm.trans h0_) (by decide), Q_X4_, Q_X14_⟩
              refine steps_cons ?_ ?_
              · rintro b a w' ⟨v147, adz_v147, v163, adz_v163, m4_, m14_, ha, Q_BK142, Q_HI0, Q_HK, Q_HB, Q_HO148, Q_HA_HO148, Q_HI0_e3, Q_HI0_e6, Q_HI0_e8, Q_HI0_e10, Q_HO164, Q_HA_HO164, Q_HI0_e13, Q_HI0_e17, Q_BK142_e19, Q_X4_, Q_X14_⟩ hb_ hon hoff
                refine ⟨_, rfl, fun K hK => ?_⟩
                have e2 : a.tmps[2]? = some (.pointer (some ⟨gb142, 0, none⟩)) := by rw [ha]; exact (putSel_off rfl).trans rfl
                have e24 : a.tmps[24]? = some (.agg #[.bool true, .int .i64 t153, .int .i64 (rd y162 t165), .string t169]) := by rw [ha]; exact putSel_on (e := (18, 24, .agg #[.bool true, .int .i64 t153, .int .i64 (rd y162 t165), .string t169])) 12 rfl rfl (hon 18 (by kernel_rfl)) rfl
                replace ha := Aside0.mk ha
                have BK142 := Aside0.mk (Q_BK142 hb_)
                have HK := Aside0.mk Q_HK
                have HB := Aside0.mk Q_HB
                have HO148 := Aside0.mk (Q_HO148 (hon 1 (by kernel_rfl)))
                have HA_HO148 := Aside0.mk (Q_HA_HO148 (hon 1 (by kernel_rfl)))
                have HO164 := Aside0.mk (Q_HO164 (hon 11 (by kernel_rfl)))
                have HA_HO164 := Aside0.mk (Q_HA_HO164 (hon 11 (by kernel_rfl)))
                have HI0 := Aside0.mk (Q_HI0_e17 (hon 17 (by kernel_rfl)))
                obtain ⟨co34, eo34⟩ := HA_HO148.out
                clear HA_HO148
                subst eo34
                obtain ⟨co35, eo35⟩ := HA_HO164.out
                clear HA_HO164
                subst eo35
                have hs36 : w'.cell? ⟨gb142, 0, none⟩ = some (.bool false) := (blk_cell BK142.out 0).trans rfl
                have hfs36 := blk_frozen BK142.out 0
                have hs37 : w'.cell? ⟨gb142, 1, none⟩ = some (.int .i64 0) := (blk_cell BK142.out 1).trans rfl
                have hfs37 := blk_frozen BK142.out 1
                have hs38 : w'.cell? ⟨gb142, 2, none⟩ = some (.int .i64 0) := (blk_cell BK142.out 2).trans rfl
                have hfs38 := blk_frozen BK142.out 2
                have hs39 : w'.cell? ⟨gb142, 3, none⟩ = some (.string (⟨#[]⟩ : ByteArray)) := (blk_cell BK142.out 3).trans rfl
                have hfs39 := blk_frozen BK142.out 3
                refine skip_ (w1 := ?_) (by rfl) rfl ?_ ?_
                rotate_left
                · go_simp
                  rfl
                refine hK.out _ _ ⟨.slice (some adz_v147) y146.length co34, adz_v147, .slice (some adz_v163) y162.length co35, adz_v163, m4_, m14_, (by rw [ha.out]; exact putSel_none (v := undef) rfl), fun h0_ => absurd ((up_self b 19).symm.trans h0_) (by decide), fun h0_ => absurd ((hon 3 (by kernel_rfl)).symm.trans h0_) (by decide), (by repeat ((with_reducible first | exact HK.out | refine keep_far ?_ GW142.out _))), (by repeat ((with_reducible first | exact HB.out | refine below_set ?_ GE142.out))), fun _ => (by (with_reducible repeat (first | apply Kd.R_alloc | apply Kd.R_drewN | apply Kd.R_drew)); exact Kd.R_mono (Kd.R_far (p := ⟨gb142, 3, none⟩) (Kd.R_far (p := ⟨gb142, 2, none⟩) (Kd.R_far (p := ⟨gb142, 1, none⟩) (Kd.R_far (p := ⟨gb142, 0, none⟩) (Kd.R_types HO148.out BK142.out (by decide)) (fun _ hk => by exact hk.2) (.bool true)) (fun _ hk => by exact hk.2) (.int .i64 t153)) (fun _ hk => by exact hk.2) (.int .i64 (rd y162 t165))) (fun _ hk => by exact hk.2) (.string t169)) (fun _ hk => by exact hk.1)), fun _ => ⟨_, rfl⟩, fun _ h1_ => absurd ((hon 6 (by kernel_rfl)).symm.trans h1_) (by decide), fun _ h1_ => absurd ((hon 8 (by kernel_rfl)).symm.trans h1_) (by decide), fun _ h1_ => absurd ((hon 10 (by kernel_rfl)).symm.trans h1_) (by decide), fun _ h1_ => absurd ((hon 13 (by kernel_rfl)).symm.trans h1_) (by decide), fun _ => (by (with_reducible repeat (first | apply Kd.R_alloc | apply Kd.R_drewN | apply Kd.R_drew)); exact Kd.R_mono (Kd.R_far (p := ⟨gb142, 3, none⟩) (Kd.R_far (p := ⟨gb142, 2, none⟩) (Kd.R_far (p := ⟨gb142, 1, none⟩) (Kd.R_far (p := ⟨gb142, 0, none⟩) (Kd.R_types HO164.out BK142.out (by decide)) (fun _ hk => by exact hk.2) (.bool true)) (fun _ hk => by exact hk.2) (.int .i64 t153)) (fun _ hk => by exact hk.2) (.int .i64 (rd y162 t165))) (fun _ hk => by exact hk.2) (.string t169)) (fun _ hk => by exact hk.1)), fun _ => ⟨_, rfl⟩, fun _ h1_ => absurd ((hon 17 (by kernel_rfl)).symm.trans h1_) (by decide), fun _ => (by repeat ((with_reducible first | exact HI0.out | refine IsS38.far ?_ NB0_142.out _))), fun _ => (by (with_reducible repeat (first | refine blk_drewN ?_ _ | refine blk_drew ?_ | refine blk_alloc ?_ _)); refine blk_put (cs := #[.bool true, .int .i64 t153, .int .i64 (rd y162 t165), .string (⟨#[]⟩ : ByteArray)]) ?_ 3 _ rfl; (with_reducible repeat (first | refine blk_drewN ?_ _ | refine blk_drew ?_ | refine blk_alloc ?_ _)); refine blk_put (cs := #[.bool true, .int .i64 t153, .int .i64 0, .string (⟨#[]⟩ : ByteArray)]) ?_ 2 _ rfl; (with_reducible repeat (first | refine blk_drewN ?_ _ | refine blk_drew ?_ | refine blk_alloc ?_ _)); refine blk_put (cs := #[.bool true, .int .i64 0, .int .i64 0, .string (⟨#[]⟩ : ByteArray)]) ?_ 1 _ rfl; (with_reducible repeat (first | refine blk_drewN ?_ _ | refine blk_drew ?_ | refine blk_alloc ?_ _)); refine blk_put (cs := #[.bool false, .int .i64 0, .int .i64 0, .string (⟨#[]⟩ : ByteArray)]) ?_ 0 _ rfl; (with_reducible repeat (first | refine blk_drewN ?_ _ | refine blk_drew ?_ | refine blk_alloc ?_ _)); exact BK142.out), Q_X4_, Q_X14_⟩
              exact steps_nil
            rintro b a w37 hall ⟨v147, adz_v147, v163, adz_v163, m4_, m14_, ha, Q_BK142, Q_HI0, Q_HK, Q_HB, Q_HO148, Q_HA_HO148, Q_HI0_e3, Q_HI0_e6, Q_HI0_e8, Q_HI0_e10, Q_HO164, Q_HA_HO164, Q_HI0_e13, Q_HI0_e17, Q_BK142_e19, Q_X4_, Q_X14_⟩
            clear BK142 HB HI0 HK
            have hb1_ := hall 1 (by kernel_rfl)
            have hb3_ := hall 3 (by kernel_rfl)
            have hb4_ := hall 4 (by kernel_rfl)
            have hb5_ := hall 5 (by kernel_rfl)
            have hb6_ := hall 6 (by kernel_rfl)
            have hb8_ := hall 8 (by kernel_rfl)
            have hb10_ := hall 10 (by kernel_rfl)
            have hb11_ := hall 11 (by kernel_rfl)
            have hb13_ := hall 13 (by kernel_rfl)
            have hb14_ := hall 14 (by kernel_rfl)
            have hb15_ := hall 15 (by kernel_rfl)
            have hb17_ := hall 17 (by kernel_rfl)
            have hb18_ := hall 18 (by kernel_rfl)
            have hb19_ := hall 19 (by kernel_rfl)
            subst ha
            obtain rfl := Q_X4_ hb4_
            obtain rfl := Q_X14_ hb14_
            simp only [putSel, hb1_, hb3_, hb4_, hb5_, hb6_, hb8_, hb10_, hb11_, hb13_, hb14_, hb15_, hb17_, hb18_, hb19_, if_true, Act.put, List.setIfInBounds_toArray, List.set_cons_zero, List.set_cons_succ]
            clear Q_BK142
            clear Q_HI0
            have HK := Aside0.mk Q_HK
            clear Q_HK
            have HB := Aside0.mk Q_HB
            clear Q_HB
            have HO148 := Aside0.mk (Q_HO148 hb1_)
            clear Q_HO148
            have HA_HO148 := Aside0.mk (Q_HA_HO148 hb1_)
            clear Q_HA_HO148
            clear Q_HI0_e3
            clear Q_HI0_e6
            clear Q_HI0_e8
            clear Q_HI0_e10
            have HO164 := Aside0.mk (Q_HO164 hb11_)
            clear Q_HO164
            have HA_HO164 := Aside0.mk (Q_HA_HO164 hb11_)
            clear Q_HA_HO164
            clear Q_HI0_e13
            have HI0 := Aside0.mk (Q_HI0_e17 hb17_)
            clear Q_HI0_e17
            have BK142 := Aside0.mk (Q_BK142_e19 hb19_)
            clear Q_BK142_e19
            clear hall hb1_ hb3_ hb4_ hb5_ hb6_ hb8_ hb10_ hb11_ hb13_ hb14_ hb15_ hb17_ hb18_ hb19_
            obtain ⟨co38, eo38⟩ := HA_HO148.out
            clear HA_HO148
            subst eo38
            obtain ⟨co39, eo39⟩ := HA_HO164.out
            clear HA_HO164
            subst eo39
            try go_wp2
            refine bodyPost_ret (results_cell_row rfl _ _ gb142 25 #[.bool true, .int .i64 t153, .int .i64 (rd y162 t165), .string t169] (0, 0) _ rfl (by (with_reducible repeat (first | refine blk_drewN ?_ _ | refine blk_drew ?_ | refine blk_alloc ?_ _)); exact BK142.out) Try.underlying25 rfl (by kernel_rfl)) rfl ?_
            exact ⟨by rfl, by repeat ((with_reducible exact HI0.out)), by repeat ((with_reducible exact HB.out)), by repeat ((with_reducible exact HK.out))⟩
          · rw [if_neg c16] at H
            exact absurd H (by simp)
        · rw [if_neg c15] at H
          exact absurd H (by simp)
      · rw [if_neg c10] at H
        exact absurd H (by simp)
    · rw [if_neg c9] at H
      exact absurd H (by simp)

/-! ### spec_l01Cur_raw: function 20 -/
def spec_l01Cur_raw.f (s0_0 : List Int) (s0_1 : Int) (s0_2 : Int) : Option (Int × Int × Int) := (spec_l01Cur_pick.f s0_0 s0_1 s0_2 8).bind fun bt172 => (if bt172.1 = 0 then ((spec_l01Cur_pick.f s0_0 bt172.2.1 bt172.2.2 256).bind fun bt175 => (some (wrap64 (bt175.1 - 128), bt175.2.1, bt175.2.2))) else (if bt172.1 = 1 then ((some (([9223372036854775807, (-9223372036854775808), 4611686018427387904, 65535, 65536, (-1000), 2147483648, 4294967296] : List Int) : List Int)).bind fun y178 => ((spec_l01Cur_pick.f s0_0 bt172.2.1 bt172.2.2 8).bind fun bt181 => (if 0 ≤ bt181.1 then (if bt181.1 < (y178.length : Int) then (some (rd y178 bt181.1, bt181.2.1, bt181.2.2)) else (none)) else (none)))) else ((spec_l01Cur_pick.f s0_0 bt172.2.1 bt172.2.2 14).bind fun bt185 => (some (wrap64 (bt185.1 - 3), bt185.2.1, bt185.2.2)))))
set_option maxHeartbeats 8000000 in
set_option maxRecDepth 100000 in
theorem spec_l01Cur_raw.calls (g : Nat) (s0_0 : List Int) (s0_1 : Int) (s0_2 : Int) (r1 : Int) (r2 : Int) (r3 : Int) (w0 w : World) (hI : IsS38 w0 w g s0_0 s0_1 s0_2) (hB : Below w0.heap.size w0 w) (h : spec_l01Cur_raw.f s0_0 s0_1 s0_2 = some (r1, r2, r3)) :
    Calls Try.prog 20 #[.pointer (some ⟨g, 0, none⟩)] w fun e w' => e = .returned (.int .i64 r1) ∧ IsS38 w0 w' g s0_0 r2 r3 ∧ Below w0.heap.size w0 w' ∧ KeepBut w w' g none := by
  have HI0 := Aside0.mk hI
  have HK := Aside0.mk (KeepBut.refl w g none)
  have HL := Aside0.mk hB.size
  clear hI
  have HW0 := Aside0.mk hB.size
  have HB := Aside0.mk hB
  clear hB
  have H : ((spec_l01Cur_pick.f s0_0 s0_1 s0_2 8).bind fun bt172 => (if bt172.1 = 0 then ((spec_l01Cur_pick.f s0_0 bt172.2.1 bt172.2.2 256).bind fun bt175 => (some (wrap64 (bt175.1 - 128), bt175.2.1, bt175.2.2))) else (if bt172.1 = 1 then ((some (([9223372036854775807, (-9223372036854775808), 4611686018427387904, 65535, 65536, (-1000), 2147483648, 4294967296] : List Int) : List Int)).bind fun y178 => ((spec_l01Cur_pick.f s0_0 bt172.2.1 bt172.2.2 8).bind fun bt181 => (if 0 ≤ bt181.1 then (if bt181.1 < (y178.length : Int) then (some (rd y178 bt181.1, bt181.2.1, bt181.2.2)) else (none)) else (none)))) else ((spec_l01Cur_pick.f s0_0 bt172.2.1 bt172.2.2 14).bind fun bt185 => (some (wrap64 (bt185.1 - 3), bt185.2.1, bt185.2.2)))))) = some (r1, r2, r3) := h
  clear h
  replace H := Option.bind_eq_some_iff.mp H
  obtain ⟨⟨t172, t173, t174⟩, A20, H⟩ := H
  replace H : (if t172 = 0 then ((spec_l01Cur_pick.f s0_0 t173 t174 256).bind fun bt175 => (some (wrap64 (bt175.1 - 128), bt175.2.1, bt175.2.2))) else (if t172 = 1 then ((some (([9223372036854775807, (-9223372036854775808), 4611686018427387904, 65535, 65536, (-1000), 2147483648, 4294967296] : List Int) : List Int)).bind fun y178 => ((spec_l01Cur_pick.f s0_0 t173 t174 8).bind fun bt181 => (if 0 ≤ bt181.1 then (if bt181.1 < (y178.length : Int) then (some (rd y178 bt181.1, bt181.2.1, bt181.2.2)) else (none)) else (none)))) else ((spec_l01Cur_pick.f s0_0 t173 t174 14).bind fun bt185 => (some (wrap64 (bt185.1 - 3), bt185.2.1, bt185.2.2))))) = some (r1, r2, r3) := H
  have A2 := Aside0.mk A20
  clear A20
  by_cases c3 : t172 = 0
  · rw [if_pos c3] at H
    have c3b0 : (t172 == 0) = true := beq_iff_eq.mpr c3
    have c3b1 : (t172 != 0) = false := bne_eq_false_iff_eq.mpr c3
    clear c3
    replace H := Option.bind_eq_some_iff.mp H
    obtain ⟨⟨t175, t176, t177⟩, A40, H⟩ := H
    replace H : (some (wrap64 (t175 - 128), t176, t177)) = some (r1, r2, r3) := H
    have A4 := Aside0.mk A40
    clear A40
    simp only [Option.some.injEq, Prod.mk.injEq] at H
    obtain ⟨rfl, rfl, rfl⟩ := H
    go_enter Try.func20, Try.ntmps20
    go_wp2_with (first | ((with_reducible refine gate_callee (f := 19) rfl ?_); refine goesL_ (some 4) rfl rfl Try.func19 (by kernel_rfl) rfl #[.pointer (some ⟨g, 0, none⟩), .int .i64 8] rfl (by (try simp only [List.map_toArray, List.map_cons, List.map_nil]); rfl) ?_; (with_reducible refine (spec_l01Cur_pick.calls g s0_0 s0_1 s0_2 8 t172 t173 t174 w0 _ ?side1 ?side2 A2.out).mono ?_); (case side1 => repeat ((with_reducible exact HI0.out))); (case side2 => repeat ((with_reducible exact HB.out))); rintro e w5 ⟨rfl, hi, hb, hk⟩; refine ⟨_, rfl, ?_⟩; have n0_ := Aside0.mk (KeepBut.trans (by repeat ((with_reducible exact HK.out))) hk (.inl rfl)); have n1_ := Aside0.mk (hb); have n2_ := Aside0.mk (hi); clear HK; clear HB; clear HI0; have HK := n0_; have HB := n1_; have HI0 := n2_; clear n0_ n1_ n2_; (try clear hb); (try clear hb2); (try clear hk); (try clear hi)) | ((with_reducible refine gate_callee (f := 19) rfl ?_); refine goesL_ (some 8) rfl rfl Try.func19 (by kernel_rfl) rfl #[.pointer (some ⟨g, 0, none⟩), .int .i64 256] rfl (by (try simp only [List.map_toArray, List.map_cons, List.map_nil]); rfl) ?_; (with_reducible refine (spec_l01Cur_pick.calls g s0_0 t173 t174 256 t175 t176 t177 w0 _ ?side1 ?side2 A4.out).mono ?_); (case side1 => repeat ((with_reducible exact HI0.out))); (case side2 => repeat ((with_reducible exact HB.out))); rintro e w6 ⟨rfl, hi, hb, hk⟩; refine ⟨_, rfl, ?_⟩; have n0_ := Aside0.mk (KeepBut.trans (by repeat ((with_reducible exact HK.out))) hk (.inl rfl)); have n1_ := Aside0.mk (hb); have n2_ := Aside0.mk (hi); clear HK; clear HB; clear HI0; have HK := n0_; have HB := n1_; have HI0 := n2_; clear n0_ n1_ n2_; (try clear hb); (try clear hb2); (try clear hk); (try clear hi)))
    go_ret
    exact ⟨by rfl, by repeat ((with_reducible exact HI0.out)), by repeat ((with_reducible exact HB.out)), by repeat ((with_reducible exact HK.out))⟩
  · rw [if_neg c3] at H
    have c3b0 : (t172 == 0) = false := beq_eq_false_iff_ne.mpr c3
    have c3b1 : (t172 != 0) = true := bne_iff_ne.mpr c3
    by_cases c7 : t172 = 1
    · rw [if_pos c7] at H
      have c7b0 : (t172 == 1) = true := beq_iff_eq.mpr c7
      have c7b1 : (t172 != 1) = false := bne_eq_false_iff_eq.mpr c7
      clear c7
      obtain ⟨y178, hy178⟩ : ∃ y_ : List Int, y_ = (([9223372036854775807, (-9223372036854775808), 4611686018427387904, 65535, 65536, (-1000), 2147483648, 4294967296] : List Int)) := ⟨_, rfl⟩
      replace H : ((spec_l01Cur_pick.f s0_0 t173 t174 8).bind fun bt181 => (if 0 ≤ bt181.1 then (if bt181.1 < (y178.length : Int) then (some (rd y178 bt181.1, bt181.2.1, bt181.2.2)) else (none)) else (none))) = some (r1, r2, r3) := by (have H2_ := (Option.bind_some _ _).symm.trans H; rw [hy178]; with_reducible exact H2_)
      have Ny178 := Aside0.mk hy178
      clear hy178
      replace H := Option.bind_eq_some_iff.mp H
      obtain ⟨⟨t181, t182, t183⟩, A80, H⟩ := H
      replace H : (if 0 ≤ t181 then (if t181 < (y178.length : Int) then (some (rd y178 t181, t182, t183)) else (none)) else (none)) = some (r1, r2, r3) := H
      have A8 := Aside0.mk A80
      clear A80
      by_cases c9 : 0 ≤ t181
      · rw [if_pos c9] at H
        have c9b0 : decide (0 ≤ t181) = true := decide_eq_true c9
        clear c9
        by_cases c10 : t181 < (y178.length : Int)
        · rw [if_pos c10] at H
          have c10b0 : decide (t181 < (y178.length : Int)) = true := decide_eq_true c10
          clear c10
          simp only [Option.some.injEq, Prod.mk.injEq] at H
          obtain ⟨rfl, rfl, rfl⟩ := H
          go_enter Try.func20, Try.ntmps20
          go_wp2_with (first | ((with_reducible refine gate_callee (f := 19) rfl ?_); refine goesL_ (some 4) rfl rfl Try.func19 (by kernel_rfl) rfl #[.pointer (some ⟨g, 0, none⟩), .int .i64 8] rfl (by (try simp only [List.map_toArray, List.map_cons, List.map_nil]); rfl) ?_; (with_reducible refine (spec_l01Cur_pick.calls g s0_0 s0_1 s0_2 8 t172 t173 t174 w0 _ ?side1 ?side2 A2.out).mono ?_); (case side1 => repeat ((with_reducible exact HI0.out))); (case side2 => repeat ((with_reducible exact HB.out))); rintro e w11 ⟨rfl, hi, hb, hk⟩; refine ⟨_, rfl, ?_⟩; have n0_ := Aside0.mk (KeepBut.trans (by repeat ((with_reducible exact HK.out))) hk (.inl rfl)); have n1_ := Aside0.mk (hb); have n2_ := Aside0.mk (hi); clear HK; clear HB; clear HI0; have HK := n0_; have HB := n1_; have HI0 := n2_; clear n0_ n1_ n2_; (try clear hb); (try clear hb2); (try clear hk); (try clear hi)) | ((with_reducible refine gate_dst (N := 12) rfl ?_); refine Kd.R_lit (Kd.int .i64) _ 3 ?hg (N := 12) ?hd (xs := ([9223372036854775807, (-9223372036854775808), 4611686018427387904, 65535, 65536, (-1000), 2147483648, 4294967296] : List Int)) (inner := [.int .i64 9223372036854775807, .int .i64 (-9223372036854775808), .int .i64 4611686018427387904, .int .i64 65535, .int .i64 65536, .int .i64 (-1000), .int .i64 2147483648, .int .i64 4294967296]) (ok := fun _ => True) (okp := fun _ => True) ?hr ?hp (fun _ hk => hk) trivial (Below.refl _ _) (Nat.le_refl _) (by simp) ?_; (case hd => rfl); (case hg => rfl); (case hr => (go_simp; done)); (case hp => exact (Reps.one (show Kd.M (Kd.int .i64) _ _ _ 9223372036854775807 [.int .i64 9223372036854775807] from rfl) (Reps.one (show Kd.M (Kd.int .i64) _ _ _ (-9223372036854775808) [.int .i64 (-9223372036854775808)] from rfl) (Reps.one (show Kd.M (Kd.int .i64) _ _ _ 4611686018427387904 [.int .i64 4611686018427387904] from rfl) (Reps.one (show Kd.M (Kd.int .i64) _ _ _ 65535 [.int .i64 65535] from rfl) (Reps.one (show Kd.M (Kd.int .i64) _ _ _ 65536 [.int .i64 65536] from rfl) (Reps.one (show Kd.M (Kd.int .i64) _ _ _ (-1000) [.int .i64 (-1000)] from rfl) (Reps.one (show Kd.M (Kd.int .i64) _ _ _ 2147483648 [.int .i64 2147483648] from rfl) (Reps.one (show Kd.M (Kd.int .i64) _ _ _ 4294967296 [.int .i64 4294967296] from rfl) (Reps.none _ _)))))))))); intro v179 w12 ho13 hb hg_ hnew_; clear hg_ hnew_; (rw [← Ny178.out] at ho13); have n0_ := Aside0.mk (Kd.R_lower ho13 (keep_size (w := w) (g := g) (row := none) (by repeat ((with_reducible exact HK.out))))); have n1_ := Aside0.mk (IsS38.below (by repeat ((with_reducible exact HI0.out))) hb); have n2_ := Aside0.mk (KeepBut.trans (by repeat ((with_reducible exact HK.out))) (KeepBut.of_below hb g none) (.inl rfl)); have n3_ := Aside0.mk (below_step (by repeat ((with_reducible exact HB.out))) hb); clear HI0; clear HK; clear HB; have HO180 := n0_; have HI0 := n1_; have HK := n2_; have HB := n3_; clear n0_ n1_ n2_ n3_; clear hb ho13) | ((with_reducible refine gate_callee (f := 19) rfl ?_); refine goesL_ (some 14) rfl rfl Try.func19 (by kernel_rfl) rfl #[.pointer (some ⟨g, 0, none⟩), .int .i64 8] rfl (by (try simp only [List.map_toArray, List.map_cons, List.map_nil]); rfl) ?_; (with_reducible refine (spec_l01Cur_pick.calls g s0_0 t173 t174 8 t181 t182 t183 w0 _ ?side1 ?side2 A8.out).mono ?_); (case side1 => repeat ((with_reducible exact HI0.out))); (case side2 => repeat ((with_reducible exact HB.out))); rintro e w14 ⟨rfl, hi, hb, hk⟩; refine ⟨_, rfl, ?_⟩; have n0_ := Aside0.mk (Kd.R_mono (Kd.R_keep (IsS38.apart (show IsS38 w0 _ g s0_0 t173 t174 from by repeat ((with_reducible exact HI0.out))) (by (with_reducible repeat (first | apply Kd.R_alloc | apply Kd.R_drewN | apply Kd.R_drew)); exact HO180.out) (by decide)) hk (fun _ h => h.2)) (fun _ h => h.1)); have n1_ := Aside0.mk (KeepBut.trans (by repeat ((with_reducible exact HK.out))) hk (.inl rfl)); have n2_ := Aside0.mk (hb); have n3_ := Aside0.mk (hi); clear HO180; clear HK; clear HB; clear HI0; have HO180 := n0_; have HK := n1_; have HB := n2_; have HI0 := n3_; clear n0_ n1_ n2_ n3_; (try clear hb); (try clear hb2); (try clear hk); (try clear hi); obtain ⟨Ao15, co15, eo15⟩ := Kd.R_slice HO180.out; subst eo15; have p184 : 0 ≤ (t181 : Int) := of_decide_eq_true (by (with_reducible assumption)); have q184 : t181 < (y178.length : Int) := of_decide_eq_true (by (with_reducible assumption)); obtain ⟨ad184, e184, hx184_0⟩ := Kd.at_int (Kd.R_reads' HO180.out).2.2 t181 p184 q184; cases e184; replace p184 := eq_true p184; replace q184 := eq_true q184))
          go_ret
          exact ⟨by rfl, by repeat ((with_reducible exact HI0.out)), by repeat ((with_reducible exact HB.out)), by repeat ((with_reducible exact HK.out))⟩
        · rw [if_neg c10] at H
          exact absurd H (by simp)
      · rw [if_neg c9] at H
        exact absurd H (by simp)
    · rw [if_neg c7] at H
      have c7b0 : (t172 == 1) = false := beq_eq_false_iff_ne.mpr c7
      have c7b1 : (t172 != 1) = true := bne_iff_ne.mpr c7
      replace H := Option.bind_eq_some_iff.mp H
      obtain ⟨⟨t185, t186, t187⟩, A160, H⟩ := H
      replace H : (some (wrap64 (t185 - 3), t186, t187)) = some (r1, r2, r3) := H
      have A16 := Aside0.mk A160
      clear A160
      simp only [Option.some.injEq, Prod.mk.injEq] at H
      obtain ⟨rfl, rfl, rfl⟩ := H
      go_enter Try.func20, Try.ntmps20
      go_wp2_with (first | ((with_reducible refine gate_callee (f := 19) rfl ?_); refine goesL_ (some 4) rfl rfl Try.func19 (by kernel_rfl) rfl #[.pointer (some ⟨g, 0, none⟩), .int .i64 8] rfl (by (try simp only [List.map_toArray, List.map_cons, List.map_nil]); rfl) ?_; (with_reducible refine (spec_l01Cur_pick.calls g s0_0 s0_1 s0_2 8 t172 t173 t174 w0 _ ?side1 ?side2 A2.out).mono ?_); (case side1 => repeat ((with_reducible exact HI0.out))); (case side2 => repeat ((with_reducible exact HB.out))); rintro e w17 ⟨rfl, hi, hb, hk⟩; refine ⟨_, rfl, ?_⟩; have n0_ := Aside0.mk (KeepBut.trans (by repeat ((with_reducible exact HK.out))) hk (.inl rfl)); have n1_ := Aside0.mk (hb); have n2_ := Aside0.mk (hi); clear HK; clear HB; clear HI0; have HK := n0_; have HB := n1_; have HI0 := n2_; clear n0_ n1_ n2_; (try clear hb); (try clear hb2); (try clear hk); (try clear hi)) | ((with_reducible refine gate_callee (f := 19) rfl ?_); refine goesL_ (some 18) rfl rfl Try.func19 (by kernel_rfl) rfl #[.pointer (some ⟨g, 0, none⟩), .int .i64 14] rfl (by (try simp only [List.map_toArray, List.map_cons, List.map_nil]); rfl) ?_; (with_reducible refine (spec_l01Cur_pick.calls g s0_0 t173 t174 14 t185 t186 t187 w0 _ ?side1 ?side2 A16.out).mono ?_); (case side1 => repeat ((with_reducible exact HI0.out))); (case side2 => repeat ((with_reducible exact HB.out))); rintro e w18 ⟨rfl, hi, hb, hk⟩; refine ⟨_, rfl, ?_⟩; have n0_ := Aside0.mk (KeepBut.trans (by repeat ((with_reducible exact HK.out))) hk (.inl rfl)); have n1_ := Aside0.mk (hb); have n2_ := Aside0.mk (hi); clear HK; clear HB; clear HI0; have HK := n0_; have HB := n1_; have HI0 := n2_; clear n0_ n1_ n2_; (try clear hb); (try clear hb2); (try clear hk); (try clear hi)))
      go_ret
      exact ⟨by rfl, by repeat ((with_reducible exact HI0.out)), by repeat ((with_reducible exact HB.out)), by repeat ((with_reducible exact HK.out))⟩

end Go.Proofs.Ytmlbkanpdhnfeaa.PFnAhead

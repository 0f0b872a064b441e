-- Laid by a program of this session: what the print of the kit writes, and contracts of the session where the print takes no function. Lean checks it.
import Derived.Test.YtmhikpfaoacgpaaPFnRecBackx0
import Derived.Test.YtmhikpfaoacgpaaPFnRecBackx6
namespace Go.Proofs.Ytmhikpfaoacgpaa.PFnRecBack
open Go.RowKit Go.Proofs.YtmhikpfaoacgpaaW.PrintWords Go.Proofs.YtmhikpfaoacgpaaW.PrintLast Go.Proofs.YtmhikpfaoacgpaaW.PrintMore
attribute [local go_sem] max2_int min2_int max_two min_two max_three min_three max_four min_four   -- for this text's walks alone
set_option linter.unusedVariables false
set_option linter.unusedSimpArgs false

/-! ### spec_l01Cur_rec: function 103 -/
def spec_l01Cur_rec.f (k : Nat) (s0_0 : List Int) (s0_1 : Int) (s0_2 : Int) : Option (Bool × Int × Int × ByteArray × Int × Int) := (spec_l01Cur_once.f s0_0 s0_1 s0_2 5).bind fun bt214 => (if bt214.1 = true then (some (false, 0, 0, (⟨#[]⟩ : ByteArray), bt214.2.1, bt214.2.2)) else ((some (([3, 8] : List Int) : List Int)).bind fun y217 => ((spec_l01Cur_pick.f s0_0 bt214.2.1 bt214.2.2 2).bind fun bt220 => (if 0 ≤ bt220.1 then (if bt220.1 < (y217.length : Int) then ((spec_l01Cur_pick.f s0_0 bt220.2.1 bt220.2.2 (rd y217 bt220.1)).bind fun bt224 => ((spec_l01Cur_pick.f s0_0 bt224.2.1 bt224.2.2 3).bind fun bt227 => ((spec_l01Cur_wide.f s0_0 bt227.2.1 bt227.2.2 65536).bind fun bt230 => ((some (([bt227.1, bt230.1, 65535] : List Int) : List Int)).bind fun y233 => ((spec_l01Cur_pick.f s0_0 bt230.2.1 bt230.2.2 3).bind fun bt236 => (if 0 ≤ bt236.1 then (if bt236.1 < (y233.length : Int) then ((spec_l01Cur_word.f k s0_0 bt236.2.1 bt236.2.2).bind fun bt240 => (some (true, bt224.1, rd y233 bt236.1, bt240.1, bt240.2.1, bt240.2.2))) else (none)) else (none))))))) else (none)) else (none)))))
theorem spec_l01Cur_rec.mono : ∀ a0 a1 a2 k, LeO (spec_l01Cur_rec.f k a0 a1 a2) (spec_l01Cur_rec.f (k + 1) a0 a1 a2) := by
  intro a0 a1 a2 k
  unfold spec_l01Cur_rec.f
  repeat' first
      | (with_reducible exact spec_l01Cur_word.mono _ _ _ _)
      | (with_reducible exact LeO.refl _)
      | (with_reducible exact LeO.none _)
      | (with_reducible refine LeO.ite ?_ ?_)
      | (with_reducible refine LeO.bind ?_ (fun _ => ?_))
      | exact spec_l01Cur_word.mono _ _ _ _
      | exact LeO.none _
      | refine LeO.ite ?_ ?_
      | refine LeO.bind ?_ (fun _ => ?_)
def spec_l01Cur_rec.T3 : Bool × List (List Nat × List Nat) := (true, [([], []), ([], []), ([], []), ([2], [2]), ([1, 3], [1, 3]), ([4], [4]), ([0, 5, 3], [0, 5]), ([], []), ([7, 6], [7]), ([], []), ([9, 8], [9]), ([8, 10], [8, 10]), ([], []), ([12, 10], [12]), ([11, 13], [11, 13]), ([14], [14]), ([], []), ([16, 13], [16]), ([6, 15, 17], [6, 15, 17]), ([18, 17, 0, 1, 2, 3, 4, 5, 6, 7, 8, 9, 10, 11, 12, 13, 14, 15, 16, 17, 18], [18])])
def spec_l01Cur_rec.B3 : List Nat := [0, 0, 0, 4, 14, 30, 63, 0, 255, 0, 1023, 2047, 0, 6143, 16383, 32767, 0, 79871, 262143, 524287]
theorem spec_l01Cur_rec.tab3 : rtab .any (opsOf Try.f103 3) = spec_l01Cur_rec.T3 := by kernel_rfl
theorem spec_l01Cur_rec.bits3 : waitsOk spec_l01Cur_rec.T3.2 spec_l01Cur_rec.B3 = true := by kernel_rfl
set_option maxHeartbeats 8000000 in
set_option maxRecDepth 100000 in
theorem spec_l01Cur_rec.calls (k : Nat) (g : Nat) (s0_0 : List Int) (s0_1 : Int) (s0_2 : Int) (r1 : Bool) (r2 : Int) (r3 : Int) (r4 : ByteArray) (r5 : Int) (r6 : Int) (w0 w : World) (hI : IsS99 w0 w g s0_0 s0_1 s0_2) (hB : Below w0.heap.size w0 w) (h : spec_l01Cur_rec.f k s0_0 s0_1 s0_2 = some (r1, r2, r3, r4, r5, r6)) :
    Calls Try.prog 103 #[.pointer (some ⟨g, 0, none⟩)] w fun e w' => e = .returned (.agg #[.bool r1, .int .i64 r2, .int .i64 r3, .string r4]) ∧ IsS99 w0 w' g s0_0 r5 r6 ∧ Below w0.heap.size w0 w' ∧ KeepBut w w' g none := by
  have hu26 := Try.underlying26
  have HI0 := Aside0.mk hI
  have HK := Aside0.mk (KeepBut.refl w g none)
  have HL := Aside0.mk hB.size
  clear hI
  have HW0 := Aside0.mk hB.size
  have HB := Aside0.mk hB
  clear hB
  have H : ((spec_l01Cur_once.f s0_0 s0_1 s0_2 5).bind fun bt214 => (if bt214.1 = true then (some (false, 0, 0, (⟨#[]⟩ : ByteArray), bt214.2.1, bt214.2.2)) else ((some (([3, 8] : List Int) : List Int)).bind fun y217 => ((spec_l01Cur_pick.f s0_0 bt214.2.1 bt214.2.2 2).bind fun bt220 => (if 0 ≤ bt220.1 then (if bt220.1 < (y217.length : Int) then ((spec_l01Cur_pick.f s0_0 bt220.2.1 bt220.2.2 (rd y217 bt220.1)).bind fun bt224 => ((spec_l01Cur_pick.f s0_0 bt224.2.1 bt224.2.2 3).bind fun bt227 => ((spec_l01Cur_wide.f s0_0 bt227.2.1 bt227.2.2 65536).bind fun bt230 => ((some (([bt227.1, bt230.1, 65535] : List Int) : List Int)).bind fun y233 => ((spec_l01Cur_pick.f s0_0 bt230.2.1 bt230.2.2 3).bind fun bt236 => (if 0 ≤ bt236.1 then (if bt236.1 < (y233.length : Int) then ((spec_l01Cur_word.f k s0_0 bt236.2.1 bt236.2.2).bind fun bt240 => (some (true, bt224.1, rd y233 bt236.1, bt240.1, bt240.2.1, bt240.2.2))) else (none)) else (none))))))) else (none)) else (none)))))) = some (r1, r2, r3, r4, r5, r6) := h
  clear h
  replace H := Option.bind_eq_some_iff.mp H
  obtain ⟨⟨t214, t215, t216⟩, A20, H⟩ := H
  replace H : (if t214 = true then (some (false, 0, 0, (⟨#[]⟩ : ByteArray), t215, t216)) else ((some (([3, 8] : List Int) : List Int)).bind fun y217 => ((spec_l01Cur_pick.f s0_0 t215 t216 2).bind fun bt220 => (if 0 ≤ bt220.1 then (if bt220.1 < (y217.length : Int) then ((spec_l01Cur_pick.f s0_0 bt220.2.1 bt220.2.2 (rd y217 bt220.1)).bind fun bt224 => ((spec_l01Cur_pick.f s0_0 bt224.2.1 bt224.2.2 3).bind fun bt227 => ((spec_l01Cur_wide.f s0_0 bt227.2.1 bt227.2.2 65536).bind fun bt230 => ((some (([bt227.1, bt230.1, 65535] : List Int) : List Int)).bind fun y233 => ((spec_l01Cur_pick.f s0_0 bt230.2.1 bt230.2.2 3).bind fun bt236 => (if 0 ≤ bt236.1 then (if bt236.1 < (y233.length : Int) then ((spec_l01Cur_word.f k s0_0 bt236.2.1 bt236.2.2).bind fun bt240 => (some (true, bt224.1, rd y233 bt236.1, bt240.1, bt240.2.1, bt240.2.2))) else (none)) else (none))))))) else (none)) else (none))))) = some (r1, r2, r3, r4, r5, r6) := H
  have A2 := Aside0.mk A20
  clear A20
  by_cases c3 : t214 = true
  · subst c3
    have H1 : (some (false, 0, 0, (⟨#[]⟩ : ByteArray), t215, t216)) = some (r1, r2, r3, r4, r5, r6) := by rw [if_pos rfl] at H; exact H
    clear H
    have H := H1
    clear H1
    simp only [Option.some.injEq, Prod.mk.injEq] at H
    obtain ⟨rfl, rfl, rfl, rfl, rfl, rfl⟩ := H
    go_enter Try.func103, Try.ntmps103
    go_wp2_with (first | ((with_reducible refine gate_dst (N := 2) rfl ?_); refine box_event ?hg (N := 2) ?hd (cs := #[.bool false, .int .i64 0, .int .i64 0, .string (⟨#[]⟩ : ByteArray)]) (t := 26) ?hr ?_; (case hd => rfl); (case hg => rfl); (case hr => first | (go_simp; done) | (go_simp; rfl)); intro gb213 hg w4 hbox hb; have n0_ := Aside0.mk (IsS99.below (by repeat (first | (with_reducible first | exact HI0.out | apply IsS99.alloc | apply IsS99.drewN | apply IsS99.drew | apply IsS99.set_1 | apply IsS99.set_2) | exact HI0.out)) hb); have n1_ := Aside0.mk (KeepBut.trans (by repeat (first | (with_reducible first | exact HK.out | apply KeepBut.set_ | apply keep_drewN | apply keep_drew | apply keep_alloc) | exact HK.out)) (KeepBut.of_below hb g none) (.inl rfl)); have n2_ := Aside0.mk (below_step (by repeat (first | (with_reducible first | exact HB.out | apply below_alloc | apply pw_below_drewN | apply below_drew1 | refine below_set ?_ (IsS99.ge HI0.out)) | exact HB.out)) hb); have n3_ := Aside0.mk (hbox); have n4_ := Aside0.mk ((by rw [hg]; exact (keep_size (w := w) (g := g) (row := none) (by repeat (first | (with_reducible first | exact HK.out | apply KeepBut.set_ | apply keep_drewN | apply keep_drew | apply keep_alloc) | exact HK.out))) : w.heap.size ≤ gb213)); have n5_ := Aside0.mk ((Nat.le_trans HW0.out (by rw [hg]; exact (keep_size (w := w) (g := g) (row := none) (by repeat (first | (with_reducible first | exact HK.out | apply KeepBut.set_ | apply keep_drewN | apply keep_drew | apply keep_alloc) | exact HK.out))) : w.heap.size ≤ gb213) : w0.heap.size ≤ gb213)); have n6_ := Aside0.mk ((by rw [hg]; exact Nat.ne_of_lt (IsS99.lt (show IsS99 w0 _ g s0_0 s0_1 s0_2 from by repeat (first | (with_reducible first | exact HI0.out | apply IsS99.alloc | apply IsS99.drewN | apply IsS99.drew | apply IsS99.set_1 | apply IsS99.set_2) | exact HI0.out))) : g ≠ gb213)); have n7_ := Aside0.mk ((by rw [hg]; exact Nat.ne_of_gt (IsS99.lt (show IsS99 w0 _ g s0_0 s0_1 s0_2 from by repeat (first | (with_reducible first | exact HI0.out | apply IsS99.alloc | apply IsS99.drewN | apply IsS99.drew | apply IsS99.set_1 | apply IsS99.set_2) | exact HI0.out))) : gb213 ≠ g)); clear HI0; clear HK; clear HB; have HI0 := n0_; have HK := n1_; have HB := n2_; have BK213 := n3_; have GW213 := n4_; have GE213 := n5_; have NB0_213 := n6_; have NB213_0 := n7_; clear n0_ n1_ n2_ n3_ n4_ n5_ n6_ n7_; clear hb hbox hg) | ((with_reducible refine gate_callee (f := 79) rfl ?_); refine goesL_ (some 4) rfl rfl Try.func79 (by kernel_rfl) rfl #[.pointer (some ⟨g, 0, none⟩), .int .i64 5] rfl (by (try simp only [List.map_toArray, List.map_cons, List.map_nil]); first | done | rfl | (simp only [List.length_drop, List.length_take]; rfl)) ?_; (with_reducible refine (spec_l01Cur_once.calls g s0_0 s0_1 s0_2 5 true t215 t216 w0 _ ?side1 ?side2 A2.out).mono ?_); (case side1 => repeat (first | (with_reducible first | exact HI0.out | apply IsS99.alloc | apply IsS99.drewN | apply IsS99.drew | apply IsS99.set_1 | apply IsS99.set_2 | refine IsS99.far ?_ NB0_213.out _) | exact HI0.out)); (case side2 => repeat (first | (with_reducible first | exact HB.out | apply below_alloc | apply pw_below_drewN | apply below_drew1 | refine below_set ?_ (IsS99.ge HI0.out) | refine below_set ?_ GE213.out) | exact HB.out)); rintro e w5 ⟨rfl, hi, hb, hk⟩; refine ⟨_, rfl, ?_⟩; have n0_ := Aside0.mk (KeepBut.blk hk (g' := gb213) (o := .cells #[.bool false, .int .i64 0, .int .i64 0, .string (⟨#[]⟩ : ByteArray)] 26 (0, 0)) (by (with_reducible repeat (first | refine blk_drewN ?_ _ | refine blk_drew ?_ | refine blk_alloc ?_ _)); exact BK213.out) NB213_0.out (by simp)); have n1_ := Aside0.mk (KeepBut.trans (by repeat (first | (with_reducible first | exact HK.out | apply KeepBut.set_ | apply keep_drewN | apply keep_drew | apply keep_alloc | refine keep_far ?_ GW213.out _) | exact HK.out)) hk (.inl rfl)); have n2_ := Aside0.mk (hb); have n3_ := Aside0.mk (hi); clear BK213; clear HK; clear HB; clear HI0; have BK213 := n0_; have HK := n1_; have HB := n2_; have HI0 := n3_; clear n0_ n1_ n2_ n3_; (try clear hb); (try clear hb2); (try clear hk); (try clear hi); have hnb6 := NB213_0.out; have hnc6 := NB0_213.out; have hcz7_0 : w5.cell? ⟨gb213, 0, none⟩ = some (.bool false) := (blk_cell BK213.out 0).trans rfl; have hcz7_1 : w5.cell? ⟨gb213, 1, none⟩ = some (.int .i64 0) := (blk_cell BK213.out 1).trans rfl; have hcz7_2 : w5.cell? ⟨gb213, 2, none⟩ = some (.int .i64 0) := (blk_cell BK213.out 2).trans rfl; have hcz7_3 : w5.cell? ⟨gb213, 3, none⟩ = some (.string (⟨#[]⟩ : ByteArray)) := (blk_cell BK213.out 3).trans rfl; have hfz7_0 := blk_frozen BK213.out 0; have hfz7_1 := blk_frozen BK213.out 1; have hfz7_2 := blk_frozen BK213.out 2; have hfz7_3 := blk_frozen BK213.out 3))
    refine bodyPost_ret (results_cell_row rfl _ _ gb213 26 #[.bool false, .int .i64 0, .int .i64 0, .string (⟨#[]⟩ : ByteArray)] (0, 0) _ rfl (by (with_reducible repeat (first | refine blk_drewN ?_ _ | refine blk_drew ?_ | refine blk_alloc ?_ _)); refine blk_put (cs := #[.bool false, .int .i64 0, .int .i64 0, .string (⟨#[]⟩ : ByteArray)]) ?_ 3 _ rfl; (with_reducible repeat (first | refine blk_drewN ?_ _ | refine blk_drew ?_ | refine blk_alloc ?_ _)); refine blk_put (cs := #[.bool false, .int .i64 0, .int .i64 0, .string (⟨#[]⟩ : ByteArray)]) ?_ 2 _ rfl; (with_reducible repeat (first | refine blk_drewN ?_ _ | refine blk_drew ?_ | refine blk_alloc ?_ _)); refine blk_put (cs := #[.bool false, .int .i64 0, .int .i64 0, .string (⟨#[]⟩ : ByteArray)]) ?_ 1 _ rfl; (with_reducible repeat (first | refine blk_drewN ?_ _ | refine blk_drew ?_ | refine blk_alloc ?_ _)); refine blk_put (cs := #[.bool false, .int .i64 0, .int .i64 0, .string (⟨#[]⟩ : ByteArray)]) ?_ 0 _ rfl; (with_reducible repeat (first | refine blk_drewN ?_ _ | refine blk_drew ?_ | refine blk_alloc ?_ _)); exact BK213.out) Try.underlying26 rfl (by kernel_rfl)) rfl ?_
    exact ⟨by first | rfl | (simp [errW_none, errW_some] <;> rfl) | (simp [*, errW_none, errW_some] <;> rfl), by repeat (first | (with_reducible first | exact HI0.out | apply IsS99.alloc | apply IsS99.drewN | apply IsS99.drew | apply IsS99.set_1 | apply IsS99.set_2 | refine IsS99.far ?_ NB0_213.out _) | exact HI0.out), by repeat (first | (with_reducible first | exact HB.out | apply below_alloc | apply pw_below_drewN | apply below_drew1 | refine below_set ?_ (IsS99.ge HI0.out) | refine below_set ?_ GE213.out) | exact HB.out), by repeat (first | (with_reducible first | exact HK.out | apply KeepBut.set_ | apply keep_drewN | apply keep_drew | apply keep_alloc | refine keep_far ?_ GW213.out _) | exact HK.out)⟩
  · replace c3 := Bool.eq_false_iff.mpr c3
    subst c3
    have H1 : ((some (([3, 8] : List Int) : List Int)).bind fun y217 => ((spec_l01Cur_pick.f s0_0 t215 t216 2).bind fun bt220 => (if 0 ≤ bt220.1 then (if bt220.1 < (y217.length : Int) then ((spec_l01Cur_pick.f s0_0 bt220.2.1 bt220.2.2 (rd y217 bt220.1)).bind fun bt224 => ((spec_l01Cur_pick.f s0_0 bt224.2.1 bt224.2.2 3).bind fun bt227 => ((spec_l01Cur_wide.f s0_0 bt227.2.1 bt227.2.2 65536).bind fun bt230 => ((some (([bt227.1, bt230.1, 65535] : List Int) : List Int)).bind fun y233 => ((spec_l01Cur_pick.f s0_0 bt230.2.1 bt230.2.2 3).bind fun bt236 => (if 0 ≤ bt236.1 then (if bt236.1 < (y233.length : Int) then ((spec_l01Cur_word.f k s0_0 bt236.2.1 bt236.2.2).bind fun bt240 => (some (true, bt224.1, rd y233 bt236.1, bt240.1, bt240.2.1, bt240.2.2))) else (none)) else (none))))))) else (none)) else (none)))) = some (r1, r2, r3, r4, r5, r6) := by rw [if_neg (show ¬ (false = true) by decide)] at H; exact H
    clear H
    have H := H1
    clear H1
    obtain ⟨y217, hy217⟩ : ∃ y_ : List Int, y_ = (([3, 8] : List Int)) := ⟨_, rfl⟩
    replace H : ((spec_l01Cur_pick.f s0_0 t215 t216 2).bind fun bt220 => (if 0 ≤ bt220.1 then (if bt220.1 < (y217.length : Int) then ((spec_l01Cur_pick.f s0_0 bt220.2.1 bt220.2.2 (rd y217 bt220.1)).bind fun bt224 => ((spec_l01Cur_pick.f s0_0 bt224.2.1 bt224.2.2 3).bind fun bt227 => ((spec_l01Cur_wide.f s0_0 bt227.2.1 bt227.2.2 65536).bind fun bt230 => ((some (([bt227.1, bt230.1, 65535] : List Int) : List Int)).bind fun y233 => ((spec_l01Cur_pick.f s0_0 bt230.2.1 bt230.2.2 3).bind fun bt236 => (if 0 ≤ bt236.1 then (if bt236.1 < (y233.length : Int) then ((spec_l01Cur_word.f k s0_0 bt236.2.1 bt236.2.2).bind fun bt240 => (some (true, bt224.1, rd y233 bt236.1, bt240.1, bt240.2.1, bt240.2.2))) else (none)) else (none))))))) else (none)) else (none))) = some (r1, r2, r3, r4, r5, r6) := by first | (rw [hy217]; with_reducible exact H) | (have H2_ := (Option.bind_some _ _).symm.trans H; rw [hy217]; with_reducible exact H2_) | (have H2_ := (Option.bind_some _ _).symm.trans H; with_reducible exact H2_) | with_reducible exact H | (rw [hy217]; exact H) | exact H
    have Ny217 := Aside0.mk hy217
    clear hy217
    replace H := Option.bind_eq_some_iff.mp H
    obtain ⟨⟨t220, t221, t222⟩, A80, H⟩ := H
    replace H : (if 0 ≤ t220 then (if t220 < (y217.length : Int) then ((spec_l01Cur_pick.f s0_0 t221 t222 (rd y217 t220)).bind fun bt224 => ((spec_l01Cur_pick.f s0_0 bt224.2.1 bt224.2.2 3).bind fun bt227 => ((spec_l01Cur_wide.f s0_0 bt227.2.1 bt227.2.2 65536).bind fun bt230 => ((some (([bt227.1, bt230.1, 65535] : List Int) : List Int)).bind fun y233 => ((spec_l01Cur_pick.f s0_0 bt230.2.1 bt230.2.2 3).bind fun bt236 => (if 0 ≤ bt236.1 then (if bt236.1 < (y233.length : Int) then ((spec_l01Cur_word.f k s0_0 bt236.2.1 bt236.2.2).bind fun bt240 => (some (true, bt224.1, rd y233 bt236.1, bt240.1, bt240.2.1, bt240.2.2))) else (none)) else (none))))))) else (none)) else (none)) = some (r1, r2, r3, r4, r5, r6) := H
    have A8 := Aside0.mk A80
    clear A80
    by_cases c9 : 0 ≤ t220
    · rw [if_pos c9] at H
      have c9b0 : decide (0 ≤ t220) = true := decide_eq_true c9
      clear c9
      by_cases c10 : t220 < (y217.length : Int)
      · rw [if_pos c10] at H
        have c10b0 : decide (t220 < (y217.length : Int)) = true := decide_eq_true c10
        clear c10
        replace H := Option.bind_eq_some_iff.mp H
        obtain ⟨⟨t224, t225, t226⟩, A110, H⟩ := H
        replace H : ((spec_l01Cur_pick.f s0_0 t225 t226 3).bind fun bt227 => ((spec_l01Cur_wide.f s0_0 bt227.2.1 bt227.2.2 65536).bind fun bt230 => ((some (([bt227.1, bt230.1, 65535] : List Int) : List Int)).bind fun y233 => ((spec_l01Cur_pick.f s0_0 bt230.2.1 bt230.2.2 3).bind fun bt236 => (if 0 ≤ bt236.1 then (if bt236.1 < (y233.length : Int) then ((spec_l01Cur_word.f k s0_0 bt236.2.1 bt236.2.2).bind fun bt240 => (some (true, t224, rd y233 bt236.1, bt240.1, bt240.2.1, bt240.2.2))) else (none)) else (none)))))) = some (r1, r2, r3, r4, r5, r6) := H
        have A11 := Aside0.mk A110
        clear A110
        replace H := Option.bind_eq_some_iff.mp H
        obtain ⟨⟨t227, t228, t229⟩, A120, H⟩ := H
        replace H : ((spec_l01Cur_wide.f s0_0 t228 t229 65536).bind fun bt230 => ((some (([t227, bt230.1, 65535] : List Int) : List Int)).bind fun y233 => ((spec_l01Cur_pick.f s0_0 bt230.2.1 bt230.2.2 3).bind fun bt236 => (if 0 ≤ bt236.1 then (if bt236.1 < (y233.length : Int) then ((spec_l01Cur_word.f k s0_0 bt236.2.1 bt236.2.2).bind fun bt240 => (some (true, t224, rd y233 bt236.1, bt240.1, bt240.2.1, bt240.2.2))) else (none)) else (none))))) = some (r1, r2, r3, r4, r5, r6) := H
        have A12 := Aside0.mk A120
        clear A120
        replace H := Option.bind_eq_some_iff.mp H
        obtain ⟨⟨t230, t231, t232⟩, A130, H⟩ := H
        replace H : ((some (([t227, t230, 65535] : List Int) : List Int)).bind fun y233 => ((spec_l01Cur_pick.f s0_0 t231 t232 3).bind fun bt236 => (if 0 ≤ bt236.1 then (if bt236.1 < (y233.length : Int) then ((spec_l01Cur_word.f k s0_0 bt236.2.1 bt236.2.2).bind fun bt240 => (some (true, t224, rd y233 bt236.1, bt240.1, bt240.2.1, bt240.2.2))) else (none)) else (none)))) = some (r1, r2, r3, r4, r5, r6) := H
        have A13 := Aside0.mk A130
        clear A130
        obtain ⟨y233, hy233⟩ : ∃ y_ : List Int, y_ = (([t227, t230, 65535] : List Int)) := ⟨_, rfl⟩
        replace H : ((spec_l01Cur_pick.f s0_0 t231 t232 3).bind fun bt236 => (if 0 ≤ bt236.1 then (if bt236.1 < (y233.length : Int) then ((spec_l01Cur_word.f k s0_0 bt236.2.1 bt236.2.2).bind fun bt240 => (some (true, t224, rd y233 bt236.1, bt240.1, bt240.2.1, bt240.2.2))) else (none)) else (none))) = some (r1, r2, r3, r4, r5, r6) := by first | (rw [hy233]; with_reducible exact H) | (have H2_ := (Option.bind_some _ _).symm.trans H; rw [hy233]; with_reducible exact H2_) | (have H2_ := (Option.bind_some _ _).symm.trans H; with_reducible exact H2_) | with_reducible exact H | (rw [hy233]; exact H) | exact H
        have Ny233 := Aside0.mk hy233
        clear hy233
        replace H := Option.bind_eq_some_iff.mp H
        obtain ⟨⟨t236, t237, t238⟩, A140, H⟩ := H
        replace H : (if 0 ≤ t236 then (if t236 < (y233.length : Int) then ((spec_l01Cur_word.f k s0_0 t237 t238).bind fun bt240 => (some (true, t224, rd y233 t236, bt240.1, bt240.2.1, bt240.2.2))) else (none)) else (none)) = some (r1, r2, r3, r4, r5, r6) := H
        have A14 := Aside0.mk A140
        clear A140
        by_cases c15 : 0 ≤ t236
        · rw [if_pos c15] at H
          have c15b0 : decide (0 ≤ t236) = true := decide_eq_true c15
          clear c15
          by_cases c16 : t236 < (y233.length : Int)
          · rw [if_pos c16] at H
            have c16b0 : decide (t236 < (y233.length : Int)) = true := decide_eq_true c16
            clear c16
            replace H := Option.bind_eq_some_iff.mp H
            obtain ⟨⟨t240, t241, t242⟩, A170, H⟩ := H
            replace H : (some (true, t224, rd y233 t236, t240, t241, t242)) = some (r1, r2, r3, r4, r5, r6) := H
            have A17 := Aside0.mk A170
            clear A170
            simp only [Option.some.injEq, Prod.mk.injEq] at H
            obtain ⟨rfl, rfl, rfl, rfl, rfl, rfl⟩ := H
            go_enter Try.func103, Try.ntmps103
            try go_wp2_with (first | ((with_reducible refine gate_dst (N := 2) rfl ?_); refine box_event ?hg (N := 2) ?hd (cs := #[.bool false, .int .i64 0, .int .i64 0, .string (⟨#[]⟩ : ByteArray)]) (t := 26) ?hr ?_; (case hd => rfl); (case hg => rfl); (case hr => first | (go_simp; done) | (go_simp; rfl)); intro gb213 hg w18 hbox hb; have n0_ := Aside0.mk (IsS99.below (by repeat (first | (with_reducible first | exact HI0.out | apply IsS99.alloc | apply IsS99.drewN | apply IsS99.drew | apply IsS99.set_1 | apply IsS99.set_2) | exact HI0.out)) hb); have n1_ := Aside0.mk (KeepBut.trans (by repeat (first | (with_reducible first | exact HK.out | apply KeepBut.set_ | apply keep_drewN | apply keep_drew | apply keep_alloc) | exact HK.out)) (KeepBut.of_below hb g none) (.inl rfl)); have n2_ := Aside0.mk (below_step (by repeat (first | (with_reducible first | exact HB.out | apply below_alloc | apply pw_below_drewN | apply below_drew1 | refine below_set ?_ (IsS99.ge HI0.out)) | exact HB.out)) hb); have n3_ := Aside0.mk (hbox); have n4_ := Aside0.mk ((by rw [hg]; exact (keep_size (w := w) (g := g) (row := none) (by repeat (first | (with_reducible first | exact HK.out | apply KeepBut.set_ | apply keep_drewN | apply keep_drew | apply keep_alloc) | exact HK.out))) : w.heap.size ≤ gb213)); have n5_ := Aside0.mk ((Nat.le_trans HW0.out (by rw [hg]; exact (keep_size (w := w) (g := g) (row := none) (by repeat (first | (with_reducible first | exact HK.out | apply KeepBut.set_ | apply keep_drewN | apply keep_drew | apply keep_alloc) | exact HK.out))) : w.heap.size ≤ gb213) : w0.heap.size ≤ gb213)); have n6_ := Aside0.mk ((by rw [hg]; exact Nat.ne_of_lt (IsS99.lt (show IsS99 w0 _ g s0_0 s0_1 s0_2 from by repeat (first | (with_reducible first | exact HI0.out | apply IsS99.alloc | apply IsS99.drewN | apply IsS99.drew | apply IsS99.set_1 | apply IsS99.set_2) | exact HI0.out))) : g ≠ gb213)); have n7_ := Aside0.mk ((by rw [hg]; exact Nat.ne_of_gt (IsS99.lt (show IsS99 w0 _ g s0_0 s0_1 s0_2 from by repeat (first | (with_reducible first | exact HI0.out | apply IsS99.alloc | apply IsS99.drewN | apply IsS99.drew | apply IsS99.set_1 | apply IsS99.set_2) | exact HI0.out))) : gb213 ≠ g)); clear HI0; clear HK; clear HB; have HI0 := n0_; have HK := n1_; have HB := n2_; have BK213 := n3_; have GW213 := n4_; have GE213 := n5_; have NB0_213 := n6_; have NB213_0 := n7_; clear n0_ n1_ n2_ n3_ n4_ n5_ n6_ n7_; clear hb hbox hg) | ((with_reducible refine gate_callee (f := 79) rfl ?_); refine goesL_ (some 4) rfl rfl Try.func79 (by kernel_rfl) rfl #[.pointer (some ⟨g, 0, none⟩), .int .i64 5] rfl (by (try simp only [List.map_toArray, List.map_cons, List.map_nil]); first | done | rfl | (simp only [List.length_drop, List.length_take]; rfl)) ?_; (with_reducible refine (spec_l01Cur_once.calls g s0_0 s0_1 s0_2 5 false t215 t216 w0 _ ?side1 ?side2 A2.out).mono ?_); (case side1 => repeat (first | (with_reducible first | exact HI0.out | apply IsS99.alloc | apply IsS99.drewN | apply IsS99.drew | apply IsS99.set_1 | apply IsS99.set_2 | refine IsS99.far ?_ NB0_213.out _) | exact HI0.out)); (case side2 => repeat (first | (with_reducible first | exact HB.out | apply below_alloc | apply pw_below_drewN | apply below_drew1 | refine below_set ?_ (IsS99.ge HI0.out) | refine below_set ?_ GE213.out) | exact HB.out)); rintro e w19 ⟨rfl, hi, hb, hk⟩; refine ⟨_, rfl, ?_⟩; have n0_ := Aside0.mk (KeepBut.blk hk (g' := gb213) (o := .cells #[.bool false, .int .i64 0, .int .i64 0, .string (⟨#[]⟩ : ByteArray)] 26 (0, 0)) (by (with_reducible repeat (first | refine blk_drewN ?_ _ | refine blk_drew ?_ | refine blk_alloc ?_ _)); exact BK213.out) NB213_0.out (by simp)); have n1_ := Aside0.mk (KeepBut.trans (by repeat (first | (with_reducible first | exact HK.out | apply KeepBut.set_ | apply keep_drewN | apply keep_drew | apply keep_alloc | refine keep_far ?_ GW213.out _) | exact HK.out)) hk (.inl rfl)); have n2_ := Aside0.mk (hb); have n3_ := Aside0.mk (hi); clear BK213; clear HK; clear HB; clear HI0; have BK213 := n0_; have HK := n1_; have HB := n2_; have HI0 := n3_; clear n0_ n1_ n2_ n3_; (try clear hb); (try clear hb2); (try clear hk); (try clear hi)))
            have pi223 : (0 ≤ (t220 : Int)) = True := eq_true (of_decide_eq_true (by first | (with_reducible assumption) | assumption))
            have qi223 : (t220 < (y217.length : Int)) = True := eq_true (of_decide_eq_true (by first | (with_reducible assumption) | assumption))
            have pi239 : (0 ≤ (t236 : Int)) = True := eq_true (of_decide_eq_true (by first | (with_reducible assumption) | assumption))
            have qi239 : (t236 < (y233.length : Int)) = True := eq_true (of_decide_eq_true (by first | (with_reducible assumption) | assumption))
            have n0_ := Aside0.mk (blk_drew BK213.out)
            have n1_ := Aside0.mk (IsS99.drew HI0.out)
            have n2_ := Aside0.mk (keep_drew HK.out)
            have n3_ := Aside0.mk (below_drew1 HB.out)
            clear BK213
            clear HI0
            clear HK
            clear HB
            have BK213 := n0_
            have HI0 := n1_
            have HK := n2_
            have HB := n3_
            clear n0_ n1_ n2_ n3_
            refine start_ (n := 20) (S := fun w' => True) (ds := []) #[false, false, false, false, false, false, false, false, false, false, false, false, false, false, false, false, false, false, false, false] (by kernel_rfl) rfl rfl trivial (fun hHeld => ?_); refine with_tabW spec_l01Cur_rec.tab3 spec_l01Cur_rec.bits3 (fun HT_ HW_ => ?_)
            generalize w19.drew = w20 at BK213 HI0 HK HB hHeld ⊢
            refine pure_ (i := 0) (N := some 6) (v := ?_) (a' := ?_) #[true, false, false, false, false, false, false, false, false, false, false, false, false, false, false, false, false, false, false, false] rfl rfl (any_of HT_.out (by kernel_rfl)) (fun _ _ _ h => h) (Or.inl ⟨by rfl, ?_⟩) ?_ ?_
            rotate_left
            · intro w'
              go_simp
              with_reducible rfl
            rotate_left
            · simp only [Act.put, List.setIfInBounds_toArray, List.set_cons_zero, List.set_cons_succ, i64_w, i32_w]
              rfl
            refine pure_ (i := 2) (N := some 8) (v := ?_) (a' := ?_) #[true, false, true, false, false, false, false, false, false, false, false, false, false, false, false, false, false, false, false, false] rfl rfl (any_of HT_.out (by kernel_rfl)) (fun _ _ _ h => h) (Or.inl ⟨by rfl, ?_⟩) ?_ ?_
            rotate_left
            · intro w'
              go_simp
              with_reducible rfl
            rotate_left
            · simp only [Act.put, List.setIfInBounds_toArray, List.set_cons_zero, List.set_cons_succ, i64_w, i32_w]
              rfl
            refine pure_ (i := 7) (N := some 13) (v := ?_) (a' := ?_) #[true, false, true, false, false, false, false, true, false, false, false, false, false, false, false, false, false, false, false, false] rfl rfl (any_of HT_.out (by kernel_rfl)) (fun _ _ _ h => h) (Or.inl ⟨by rfl, ?_⟩) ?_ ?_
            rotate_left
            · intro w'
              go_simp
              with_reducible rfl
            rotate_left
            · simp only [Act.put, List.setIfInBounds_toArray, List.set_cons_zero, List.set_cons_succ, i64_w, i32_w]
              rfl
            refine pure_ (i := 9) (N := some 15) (v := ?_) (a' := ?_) #[true, false, true, false, false, false, false, true, false, true, false, false, false, false, false, false, false, false, false, false] rfl rfl (any_of HT_.out (by kernel_rfl)) (fun _ _ _ h => h) (Or.inl ⟨by rfl, ?_⟩) ?_ ?_
            rotate_left
            · intro w'
              go_simp
              with_reducible rfl
            rotate_left
            · simp only [Act.put, List.setIfInBounds_toArray, List.set_cons_zero, List.set_cons_succ, i64_w, i32_w]
              rfl
            refine pure_ (i := 12) (N := some 18) (v := ?_) (a' := ?_) #[true, false, true, false, false, false, false, true, false, true, false, false, true, false, false, false, false, false, false, false] rfl rfl (any_of HT_.out (by kernel_rfl)) (fun _ _ _ h => h) (Or.inl ⟨by rfl, ?_⟩) ?_ ?_
            rotate_left
            · intro w'
              go_simp
              with_reducible rfl
            rotate_left
            · simp only [Act.put, List.setIfInBounds_toArray, List.set_cons_zero, List.set_cons_succ, i64_w, i32_w]
              rfl
            refine pure_ (i := 16) (N := some 22) (v := ?_) (a' := ?_) #[true, false, true, false, false, false, false, true, false, true, false, false, true, false, false, false, true, false, false, false] rfl rfl (any_of HT_.out (by kernel_rfl)) (fun _ _ _ h => h) (Or.inl ⟨by rfl, ?_⟩) ?_ ?_
            rotate_left
            · intro w'
              go_simp
              with_reducible rfl
            rotate_left
            · simp only [Act.put, List.setIfInBounds_toArray, List.set_cons_zero, List.set_cons_succ, i64_w, i32_w]
              rfl
            refine inv_at [1, 3, 4, 5, 6, 8, 10, 11, 13, 14, 15, 17, 18, 19] (fun a0_ b a w' => ∃ (v218 : Value) (adz_v218 : Addr) (v234 : Value) (adz_v234 : Addr) (m4_ : Value) (m14_ : Value), a = putSel a0_ b [(1, 7, v218), (3, 9, .int .i64 t220), (4, 10, m4_), (5, 11, .int .i64 (rd y217 t220)), (6, 12, .int .i64 t224), (8, 14, .int .i64 t227), (10, 16, .int .i64 t230), (11, 17, v234), (13, 19, .int .i64 t236), (14, 20, m14_), (15, 21, .int .i64 (rd y233 t236)), (17, 23, .string t240), (18, 24, .agg #[.bool true, .int .i64 t224, .int .i64 (rd y233 t236), .string t240])] ∧ (b 19 = false → w'.heap[gb213]? = some (.cells #[.bool false, .int .i64 0, .int .i64 0, .string (⟨#[]⟩ : ByteArray)] 26 (0, 0))) ∧ (b 3 = false → IsS99 w0 w' g s0_0 t215 t216) ∧ (KeepBut w w' g none) ∧ (Below w0.heap.size w0 w') ∧ (b 1 = true → Kd.R (Kd.int .i64) 3 w' w.heap.size (fun _ => True) v218 y217) ∧ (b 1 = true → ∃ c_, (v218 : Value) = .slice (some adz_v218) y217.length c_) ∧ (b 3 = true → b 6 = false → IsS99 w0 w' g s0_0 t221 t222) ∧ (b 6 = true → b 8 = false → IsS99 w0 w' g s0_0 t225 t226) ∧ (b 8 = true → b 10 = false → IsS99 w0 w' g s0_0 t228 t229) ∧ (b 10 = true → b 13 = false → IsS99 w0 w' g s0_0 t231 t232) ∧ (b 11 = true → Kd.R (Kd.int .i64) 3 w' w.heap.size (fun _ => True) v234 y233) ∧ (b 11 = true → ∃ c_, (v234 : Value) = .slice (some adz_v234) y233.length c_) ∧ (b 13 = true → b 17 = false → IsS99 w0 w' g s0_0 t237 t238) ∧ (b 17 = true → IsS99 w0 w' g s0_0 t241 t242) ∧ (b 19 = true → w'.heap[gb213]? = some (.cells #[.bool true, .int .i64 t224, .int .i64 (rd y233 t236), .string t240] 26 (0, 0))) ∧ (b 4 = true → (m4_ : Value) = .pointer (some (adz_v218.add (t220).toNat))) ∧ (b 14 = true → (m14_ : Value) = .pointer (some (adz_v234.add (t236).toNat)))) HT_.out HW_.out (by kernel_rfl) (by kernel_rfl) ?_ ?_ ?_
            · exact ⟨.bool false, ⟨0, 0, none⟩, .bool false, ⟨0, 0, none⟩, .bool false, .bool false, by simp only [putSel, Bool.false_eq_true, if_false], fun _ => BK213.out, fun _ => HI0.out, HK.out, HB.out, fun h_ => absurd h_ (by decide), fun h_ => absurd h_ (by decide), fun h_ => absurd h_ (by decide), fun h_ => absurd h_ (by decide), fun h_ => absurd h_ (by decide), fun h_ => absurd h_ (by decide), fun h_ => absurd h_ (by decide), fun h_ => absurd h_ (by decide), fun h_ => absurd h_ (by decide), fun h_ => absurd h_ (by decide), fun h_ => absurd h_ (by decide), fun h_ => absurd h_ (by decide), fun h_ => absurd h_ (by decide)⟩
            · skip
              clear BK213 HB HI0 HK
              refine steps_cons ?_ ?_
              · rintro b a w' ⟨v218, adz_v218, v234, adz_v234, m4_, m14_, ha, Q_BK213, Q_HI0, Q_HK, Q_HB, Q_HO219, Q_HA_HO219, Q_HI0_e3, Q_HI0_e6, Q_HI0_e8, Q_HI0_e10, Q_HO235, Q_HA_HO235, Q_HI0_e13, Q_HI0_e17, Q_BK213_e19, Q_X4_, Q_X14_⟩ hb_ hon hoff
                refine ⟨_, rfl, fun K hK => ?_⟩
                replace ha := Aside0.mk ha
                have BK213 := Aside0.mk (Q_BK213 (hoff 19 (by kernel_rfl)))
                have HK := Aside0.mk Q_HK
                have HB := Aside0.mk Q_HB
                refine Kd.R_lit_step (Kd.int .i64) _ 3 ?hg (N := 7) ?hd (xs := ([3, 8] : List Int)) (inner := [.int .i64 3, .int .i64 8]) (ok := fun _ => True) (okp := fun _ => True) ?hr ?hp (fun _ hk => hk) trivial (Below.refl _ _) (Nat.le_refl _) (by simp) ?_; (case hd => rfl); (case hg => rfl); (case hr => first | (go_simp; done) | (go_simp; rfl)); (case hp => exact (Reps.one (show Kd.M (Kd.int .i64) _ _ _ 3 [.int .i64 3] from rfl) (Reps.one (show Kd.M (Kd.int .i64) _ _ _ 8 [.int .i64 8] from rfl) (Reps.none _ _))))
                intro v218 w21 ho22 hb hg_ hnew_
                clear hg_ hnew_
                (first | rw [← Ny217.out] at ho22 | (simp only [Int.reduceToNat] at ho22; rw [← Ny217.out] at ho22))
                have n0_ := Aside0.mk (Kd.R_lower ho22 (keep_size (w := w) (g := g) (row := none) (by repeat (first | (with_reducible first | exact HK.out | apply KeepBut.set_ | apply keep_drewN | apply keep_drew | apply keep_alloc | refine keep_far ?_ GW213.out _) | exact HK.out))))
                have n2_ := Aside0.mk (blk_below (g := gb213) (o := .cells #[.bool false, .int .i64 0, .int .i64 0, .string (⟨#[]⟩ : ByteArray)] 26 (0, 0)) (by (with_reducible repeat (first | refine blk_drewN ?_ _ | refine blk_drew ?_ | refine blk_alloc ?_ _)); exact BK213.out) hb)
                have n3_ := Aside0.mk (KeepBut.trans (by repeat (first | (with_reducible first | exact HK.out | apply KeepBut.set_ | apply keep_drewN | apply keep_drew | apply keep_alloc | refine keep_far ?_ GW213.out _) | exact HK.out)) (KeepBut.of_below hb g none) (.inl rfl))
                have n4_ := Aside0.mk (below_step (by repeat (first | (with_reducible first | exact HB.out | apply below_alloc | apply pw_below_drewN | apply below_drew1 | refine below_set ?_ GE213.out) | exact HB.out)) hb)
                have z_HI0 := fun (h0_ : b 3 = false) => (show IsS99 w0 w21 g s0_0 t215 t216 from by first | exact (IsS99.below (by repeat (first | (with_reducible first | exact (Q_HI0 h0_) | apply IsS99.alloc | apply IsS99.drewN | apply IsS99.drew | apply IsS99.set_1 | apply IsS99.set_2 | refine IsS99.far ?_ NB0_213.out _) | exact (Q_HI0 h0_))) hb))
                have z_HI0_e3 := fun (h0_ : b 3 = true) (h1_ : b 6 = false) => (show IsS99 w0 w21 g s0_0 t221 t222 from by first | exact (IsS99.below (by repeat (first | (with_reducible first | exact (Q_HI0_e3 h0_ h1_) | apply IsS99.alloc | apply IsS99.drewN | apply IsS99.drew | apply IsS99.set_1 | apply IsS99.set_2 | refine IsS99.far ?_ NB0_213.out _) | exact (Q_HI0_e3 h0_ h1_))) hb))
                clear BK213
                clear HK
                clear HB
                have HO219 := n0_
                have BK213 := n2_
                have HK := n3_
                have HB := n4_
                clear n0_ n2_ n3_ n4_
                clear hb ho22
                obtain ⟨Ao23, co23, eo23⟩ := Kd.R_slice HO219.out
                subst eo23
                obtain ⟨ado23, fo23, _⟩ := Kd.at_int (Kd.R_reads' HO219.out).2.2 0 (by decide) (by rw [Ny217.out]; simp)
                cases fo23
                refine hK.out _ _ ⟨.slice (some ado23) y217.length co23, ado23, v234, adz_v234, m4_, m14_, (by rw [ha.out]; exact putSel_upk 0 hb_ rfl rfl rfl), fun _ => (by (with_reducible repeat (first | refine blk_drewN ?_ _ | refine blk_drew ?_ | refine blk_alloc ?_ _)); exact BK213.out), z_HI0, (by repeat (first | (with_reducible first | exact HK.out | apply KeepBut.set_ | apply keep_drewN | apply keep_drew | apply keep_alloc | refine keep_far ?_ GW213.out _) | exact HK.out)), (by repeat (first | (with_reducible first | exact HB.out | apply below_alloc | apply pw_below_drewN | apply below_drew1 | refine below_set ?_ GE213.out) | exact HB.out)), fun _ => (by (with_reducible repeat (first | apply Kd.R_alloc | apply Kd.R_drewN | apply Kd.R_drew)); exact HO219.out), fun _ => ⟨_, rfl⟩, z_HI0_e3, fun h0_ _ => absurd ((hoff 6 (by kernel_rfl)).symm.trans h0_) (by decide), fun h0_ _ => absurd ((hoff 8 (by kernel_rfl)).symm.trans h0_) (by decide), fun h0_ _ => absurd ((hoff 10 (by kernel_rfl)).symm.trans h0_) (by decide), fun h0_ => absurd ((hoff 11 (by kernel_rfl)).symm.trans h0_) (by decide), fun h0_ => absurd ((hoff 11 (by kernel_rfl)).symm.trans h0_) (by decide), fun h0_ _ => absurd ((hoff 13 (by kernel_rfl)).symm.trans h0_) (by decide), fun h0_ => absurd ((hoff 17 (by kernel_rfl)).symm.trans h0_) (by decide), fun h0_ => absurd ((hoff 19 (by kernel_rfl)).symm.trans h0_) (by decide), fun h0_ => absurd ((hoff 4 (by kernel_rfl)).symm.trans h0_) (by decide), fun h0_ => absurd ((hoff 14 (by kernel_rfl)).symm.trans h0_) (by decide)⟩
              refine steps_cons ?_ ?_
              · rintro b a w' ⟨v218, adz_v218, v234, adz_v234, m4_, m14_, ha, Q_BK213, Q_HI0, Q_HK, Q_HB, Q_HO219, Q_HA_HO219, Q_HI0_e3, Q_HI0_e6, Q_HI0_e8, Q_HI0_e10, Q_HO235, Q_HA_HO235, Q_HI0_e13, Q_HI0_e17, Q_BK213_e19, Q_X4_, Q_X14_⟩ hb_ hon hoff
                refine ⟨_, rfl, fun K hK => ?_⟩
                have e8 : a.tmps[8]? = some (.pointer (some ⟨g, 0, none⟩)) := by rw [ha]; exact (putSel_off rfl).trans rfl
                replace ha := Aside0.mk ha
                have BK213 := Aside0.mk (Q_BK213 (hoff 19 (by kernel_rfl)))
                have HI0 := Aside0.mk (Q_HI0 hb_)
                have HK := Aside0.mk Q_HK
                have HB := Aside0.mk Q_HB
                refine goes_ Try.func94 (by kernel_rfl) rfl #[.pointer (some ⟨g, 0, none⟩), .int .i64 2] (by rfl) rfl rfl (by first | (simp only [List.map_toArray, List.map_cons, List.map_nil, Act.eval, Array.getD_eq_getD_getElem?, Option.getD_some, e8]; done) | (simp only [List.map_toArray, List.map_cons, List.map_nil, Act.eval, Array.getD_eq_getD_getElem?, Option.getD_some, e8]; rfl)) ?_
                with_reducible refine (spec_l01Cur_pick.calls g s0_0 t215 t216 2 t220 t221 t222 w0 _ ?side1 ?side2 A8.out).mono ?_
                (case side1 => repeat (first | (with_reducible first | exact HI0.out | apply IsS99.alloc | apply IsS99.drewN | apply IsS99.drew | apply IsS99.set_1 | apply IsS99.set_2 | refine IsS99.far ?_ NB0_213.out _) | exact HI0.out))
                (case side2 => repeat (first | (with_reducible first | exact HB.out | apply below_alloc | apply pw_below_drewN | apply below_drew1 | refine below_set ?_ (IsS99.ge HI0.out) | refine below_set ?_ GE213.out) | exact HB.out))
                rintro e w21 ⟨rfl, hi, hb, hk⟩
                refine ⟨_, rfl, ?_⟩
                have n0_ := Aside0.mk (KeepBut.blk hk (g' := gb213) (o := .cells #[.bool false, .int .i64 0, .int .i64 0, .string (⟨#[]⟩ : ByteArray)] 26 (0, 0)) (by (with_reducible repeat (first | refine blk_drewN ?_ _ | refine blk_drew ?_ | refine blk_alloc ?_ _)); exact BK213.out) NB213_0.out (by simp))
                have n1_ := Aside0.mk (KeepBut.trans (by repeat (first | (with_reducible first | exact HK.out | apply KeepBut.set_ | apply keep_drewN | apply keep_drew | apply keep_alloc | refine keep_far ?_ GW213.out _) | exact HK.out)) hk (.inl rfl))
                have n2_ := Aside0.mk (hb)
                have n3_ := Aside0.mk (hi)
                have z_HO219 := fun (h0_ : b 1 = true) => (show Kd.R (Kd.int .i64) 3 w21 w.heap.size (fun _ => True) v218 y217 from by first | exact (Kd.R_mono (Kd.R_keep (IsS99.apart (show IsS99 w0 _ g s0_0 t215 t216 from by repeat (first | (with_reducible first | exact HI0.out | apply IsS99.alloc | apply IsS99.drewN | apply IsS99.drew | apply IsS99.set_1 | apply IsS99.set_2 | refine IsS99.far ?_ NB0_213.out _) | exact HI0.out)) (by (with_reducible repeat (first | apply Kd.R_alloc | apply Kd.R_drewN | apply Kd.R_drew)); exact (Q_HO219 h0_)) (by decide)) hk (fun _ h => h.2)) (fun _ h => h.1)) | exact Kd.R_mono (Kd.R_mono (Kd.R_keep (IsS99.apart (show IsS99 w0 _ g s0_0 t215 t216 from by repeat (first | (with_reducible first | exact HI0.out | apply IsS99.alloc | apply IsS99.drewN | apply IsS99.drew | apply IsS99.set_1 | apply IsS99.set_2 | refine IsS99.far ?_ NB0_213.out _) | exact HI0.out)) (by (with_reducible repeat (first | apply Kd.R_alloc | apply Kd.R_drewN | apply Kd.R_drew)); exact (Q_HO219 h0_)) (by decide)) hk (fun _ h => h.2)) (fun _ h => h.1)) (fun _ h_ => by first | trivial | exact h_ | exact h_.1))
                clear BK213
                clear HK
                clear HB
                clear HI0
                have BK213 := n0_
                have HK := n1_
                have HB := n2_
                have HI0 := n3_
                clear n0_ n1_ n2_ n3_
                (try clear hb)
                (try clear hb2)
                (try clear hk)
                (try clear hi)
                refine hK.out _ _ ⟨v218, adz_v218, v234, adz_v234, m4_, m14_, (by rw [ha.out]; exact putSel_upk 1 hb_ rfl rfl rfl), fun _ => (by (with_reducible repeat (first | refine blk_drewN ?_ _ | refine blk_drew ?_ | refine blk_alloc ?_ _)); exact BK213.out), fun h0_ => absurd ((up_self b 3).symm.trans h0_) (by decide), (by repeat (first | (with_reducible first | exact HK.out | apply KeepBut.set_ | apply keep_drewN | apply keep_drew | apply keep_alloc | refine keep_far ?_ GW213.out _) | exact HK.out)), (by repeat (first | (with_reducible first | exact HB.out | apply below_alloc | apply pw_below_drewN | apply below_drew1 | refine below_set ?_ (IsS99.ge HI0.out) | refine below_set ?_ GE213.out) | exact HB.out)), z_HO219, Q_HA_HO219, fun _ _ => (by repeat (first | (with_reducible first | exact HI0.out | apply IsS99.alloc | apply IsS99.drewN | apply IsS99.drew | apply IsS99.set_1 | apply IsS99.set_2 | refine IsS99.far ?_ NB0_213.out _) | exact HI0.out)), fun h0_ _ => absurd ((hoff 6 (by kernel_rfl)).symm.trans h0_) (by decide), fun h0_ _ => absurd ((hoff 8 (by kernel_rfl)).symm.trans h0_) (by decide), fun h0_ _ => absurd ((hoff 10 (by kernel_rfl)).symm.trans h0_) (by decide), fun h0_ => absurd ((hoff 11 (by kernel_rfl)).symm.trans h0_) (by decide), fun h0_ => absurd ((hoff 11 (by kernel_rfl)).symm.trans h0_) (by decide), fun h0_ _ => absurd ((hoff 13 (by kernel_rfl)).symm.trans h0_) (by decide), fun h0_ => absurd ((hoff 17 (by kernel_rfl)).symm.trans h0_) (by decide), fun h0_ => absurd ((hoff 19 (by kernel_rfl)).symm.trans h0_) (by decide), fun h0_ => absurd ((hoff 4 (by kernel_rfl)).symm.trans h0_) (by decide), fun h0_ => absurd ((hoff 14 (by kernel_rfl)).symm.trans h0_) (by decide)⟩
              refine steps_cons ?_ ?_
              · rintro b a w' ⟨v218, adz_v218, v234, adz_v234, m4_, m14_, ha, Q_BK213, Q_HI0, Q_HK, Q_HB, Q_HO219, Q_HA_HO219, Q_HI0_e3, Q_HI0_e6, Q_HI0_e8, Q_HI0_e10, Q_HO235, Q_HA_HO235, Q_HI0_e13, Q_HI0_e17, Q_BK213_e19, Q_X4_, Q_X14_⟩ hb_ hon hoff
                refine ⟨_, rfl, fun K hK => ?_⟩
                have e7 : a.tmps[7]? = some (v218) := by rw [ha]; exact putSel_on (e := (1, 7, v218)) 0 rfl rfl (hon 1 (by kernel_rfl)) rfl
                have e9 : a.tmps[9]? = some (.int .i64 t220) := by rw [ha]; exact putSel_on (e := (3, 9, .int .i64 t220)) 1 rfl rfl (hon 3 (by kernel_rfl)) rfl
                replace ha := Aside0.mk ha
                have BK213 := Aside0.mk (Q_BK213 (hoff 19 (by kernel_rfl)))
                have HK := Aside0.mk Q_HK
                have HB := Aside0.mk Q_HB
                have HO219 := Aside0.mk (Q_HO219 (hon 1 (by kernel_rfl)))
                have HA_HO219 := Aside0.mk (Q_HA_HO219 (hon 1 (by kernel_rfl)))
                have HI0 := Aside0.mk (Q_HI0_e3 (hon 3 (by kernel_rfl)) (hoff 6 (by kernel_rfl)))
                obtain ⟨c_, hv_⟩ := HA_HO219.out
                rw [hv_] at e7
                refine value_ (w1 := w') (v := .pointer (some (adz_v218.add (t220).toNat))) (by rfl) rfl ?_ ?_
                · go_simp
                  (try simp only [i64_w])
                  try rfl
                refine hK.out _ _ ⟨v218, adz_v218, v234, adz_v234, (.pointer (some (adz_v218.add (t220).toNat))), m14_, (by rw [ha.out]; exact putSel_upk 2 hb_ rfl rfl rfl), Q_BK213, fun h0_ => absurd ((hon 3 (by kernel_rfl)).symm.trans h0_) (by decide), Q_HK, Q_HB, Q_HO219, Q_HA_HO219, Q_HI0_e3, fun h0_ _ => absurd ((hoff 6 (by kernel_rfl)).symm.trans h0_) (by decide), fun h0_ _ => absurd ((hoff 8 (by kernel_rfl)).symm.trans h0_) (by decide), fun h0_ _ => absurd ((hoff 10 (by kernel_rfl)).symm.trans h0_) (by decide), fun h0_ => absurd ((hoff 11 (by kernel_rfl)).symm.trans h0_) (by decide), fun h0_ => absurd ((hoff 11 (by kernel_rfl)).symm.trans h0_) (by decide), fun h0_ _ => absurd ((hoff 13 (by kernel_rfl)).symm.trans h0_) (by decide), fun h0_ => absurd ((hoff 17 (by kernel_rfl)).symm.trans h0_) (by decide), fun h0_ => absurd ((hoff 19 (by kernel_rfl)).symm.trans h0_) (by decide), fun _ => rfl, fun h0_ => absurd ((hoff 14 (by kernel_rfl)).symm.trans h0_) (by decide)⟩
              refine steps_cons ?_ ?_
              · rintro b a w' ⟨v218, adz_v218, v234, adz_v234, m4_, m14_, ha, Q_BK213, Q_HI0, Q_HK, Q_HB, Q_HO219, Q_HA_HO219, Q_HI0_e3, Q_HI0_e6, Q_HI0_e8, Q_HI0_e10, Q_HO235, Q_HA_HO235, Q_HI0_e13, Q_HI0_e17, Q_BK213_e19, Q_X4_, Q_X14_⟩ hb_ hon hoff
                refine ⟨_, rfl, fun K hK => ?_⟩
                have e10 : a.tmps[10]? = some (m4_) := by rw [ha]; exact putSel_on (e := (4, 10, m4_)) 2 rfl rfl (hon 4 (by kernel_rfl)) rfl
                rw [Q_X4_ (hon 4 (by kernel_rfl))] at e10
                replace ha := Aside0.mk ha
                have BK213 := Aside0.mk (Q_BK213 (hoff 19 (by kernel_rfl)))
                have HK := Aside0.mk Q_HK
                have HB := Aside0.mk Q_HB
                have HO219 := Aside0.mk (Q_HO219 (hon 1 (by kernel_rfl)))
                have HA_HO219 := Aside0.mk (Q_HA_HO219 (hon 1 (by kernel_rfl)))
                have HI0 := Aside0.mk (Q_HI0_e3 (hon 3 (by kernel_rfl)) (hoff 6 (by kernel_rfl)))
                obtain ⟨c_, hv_⟩ := HA_HO219.out
                have hF_ := HO219.out
                rw [hv_] at hF_
                obtain ⟨ad_, ea_, hx_⟩ := Kd.at_int (Kd.R_reads' hF_).2.2 t220 (of_eq_true pi223) (of_eq_true qi223)
                cases ea_
                refine value_ (w1 := w') (v := .int .i64 (rd y217 t220)) (by rfl) rfl ?_ ?_
                · go_simp
                  (try simp only [i64_w])
                  try rfl
                refine hK.out _ _ ⟨v218, adz_v218, v234, adz_v234, m4_, m14_, (by rw [ha.out]; exact putSel_upk 3 hb_ rfl rfl rfl), Q_BK213, fun h0_ => absurd ((hon 3 (by kernel_rfl)).symm.trans h0_) (by decide), Q_HK, Q_HB, Q_HO219, Q_HA_HO219, Q_HI0_e3, fun h0_ _ => absurd ((hoff 6 (by kernel_rfl)).symm.trans h0_) (by decide), fun h0_ _ => absurd ((hoff 8 (by kernel_rfl)).symm.trans h0_) (by decide), fun h0_ _ => absurd ((hoff 10 (by kernel_rfl)).symm.trans h0_) (by decide), fun h0_ => absurd ((hoff 11 (by kernel_rfl)).symm.trans h0_) (by decide), fun h0_ => absurd ((hoff 11 (by kernel_rfl)).symm.trans h0_) (by decide), fun h0_ _ => absurd ((hoff 13 (by kernel_rfl)).symm.trans h0_) (by decide), fun h0_ => absurd ((hoff 17 (by kernel_rfl)).symm.trans h0_) (by decide), fun h0_ => absurd ((hoff 19 (by kernel_rfl)).symm.trans h0_) (by decide), Q_X4_, fun h0_ => absurd ((hoff 14 (by kernel_rfl)).symm.trans h0_) (by decide)⟩
              refine steps_cons ?_ ?_
              · rintro b a w' ⟨v218, adz_v218, v234, adz_v234, m4_, m14_, ha, Q_BK213, Q_HI0, Q_HK, Q_HB, Q_HO219, Q_HA_HO219, Q_HI0_e3, Q_HI0_e6, Q_HI0_e8, Q_HI0_e10, Q_HO235, Q_HA_HO235, Q_HI0_e13, Q_HI0_e17, Q_BK213_e19, Q_X4_, Q_X14_⟩ hb_ hon hoff
                refine ⟨_, rfl, fun K hK => ?_⟩
                have e6 : a.tmps[6]? = some (.pointer (some ⟨g, 0, none⟩)) := by rw [ha]; exact (putSel_off rfl).trans rfl
                have e11 : a.tmps[11]? = some (.int .i64 (rd y217 t220)) := by rw [ha]; exact putSel_on (e := (5, 11, .int .i64 (rd y217 t220))) 3 rfl rfl (hon 5 (by kernel_rfl)) rfl
                replace ha := Aside0.mk ha
                have BK213 := Aside0.mk (Q_BK213 (hoff 19 (by kernel_rfl)))
                have HK := Aside0.mk Q_HK
                have HB := Aside0.mk Q_HB
                have HO219 := Aside0.mk (Q_HO219 (hon 1 (by kernel_rfl)))
                have HA_HO219 := Aside0.mk (Q_HA_HO219 (hon 1 (by kernel_rfl)))
                have HI0 := Aside0.mk (Q_HI0_e3 (hon 3 (by kernel_rfl)) hb_)
                obtain ⟨co26, eo26⟩ := HA_HO219.out
                clear HA_HO219
                subst eo26
                refine goes_ Try.func94 (by kernel_rfl) rfl #[.pointer (some ⟨g, 0, none⟩), .int .i64 (rd y217 t220)] (by rfl) rfl rfl (by first | (simp only [List.map_toArray, List.map_cons, List.map_nil, Act.eval, Array.getD_eq_getD_getElem?, Option.getD_some, e6, e11]; done) | (simp only [List.map_toArray, List.map_cons, List.map_nil, Act.eval, Array.getD_eq_getD_getElem?, Option.getD_some, e6, e11]; rfl)) ?_
                with_reducible refine (spec_l01Cur_pick.calls g s0_0 t221 t222 (rd y217 t220) t224 t225 t226 w0 _ ?side1 ?side2 A11.out).mono ?_
                (case side1 => repeat (first | (with_reducible first | exact HI0.out | apply IsS99.alloc | apply IsS99.drewN | apply IsS99.drew | apply IsS99.set_1 | apply IsS99.set_2 | refine IsS99.far ?_ NB0_213.out _) | exact HI0.out))
                (case side2 => repeat (first | (with_reducible first | exact HB.out | apply below_alloc | apply pw_below_drewN | apply below_drew1 | refine below_set ?_ (IsS99.ge HI0.out) | refine below_set ?_ GE213.out) | exact HB.out))
                rintro e w27 ⟨rfl, hi, hb, hk⟩
                refine ⟨_, rfl, ?_⟩
                have n0_ := Aside0.mk (KeepBut.blk hk (g' := gb213) (o := .cells #[.bool false, .int .i64 0, .int .i64 0, .string (⟨#[]⟩ : ByteArray)] 26 (0, 0)) (by (with_reducible repeat (first | refine blk_drewN ?_ _ | refine blk_drew ?_ | refine blk_alloc ?_ _)); exact BK213.out) NB213_0.out (by simp))
                have n1_ := Aside0.mk (Kd.R_mono (Kd.R_keep (IsS99.apart (show IsS99 w0 _ g s0_0 t221 t222 from by repeat (first | (with_reducible first | exact HI0.out | apply IsS99.alloc | apply IsS99.drewN | apply IsS99.drew | apply IsS99.set_1 | apply IsS99.set_2 | refine IsS99.far ?_ NB0_213.out _) | exact HI0.out)) (by (with_reducible repeat (first | apply Kd.R_alloc | apply Kd.R_drewN | apply Kd.R_drew)); exact HO219.out) (by decide)) hk (fun _ h => h.2)) (fun _ h => h.1))
                have n2_ := Aside0.mk (KeepBut.trans (by repeat (first | (with_reducible first | exact HK.out | apply KeepBut.set_ | apply keep_drewN | apply keep_drew | apply keep_alloc | refine keep_far ?_ GW213.out _) | exact HK.out)) hk (.inl rfl))
                have n3_ := Aside0.mk (hb)
                have n4_ := Aside0.mk (hi)
                clear BK213
                clear HO219
                clear HK
                clear HB
                clear HI0
                have BK213 := n0_
                have HO219 := n1_
                have HK := n2_
                have HB := n3_
                have HI0 := n4_
                clear n0_ n1_ n2_ n3_ n4_
                (try clear hb)
                (try clear hb2)
                (try clear hk)
                (try clear hi)
                refine hK.out _ _ ⟨.slice (some adz_v218) y217.length co26, adz_v218, v234, adz_v234, m4_, m14_, (by rw [ha.out]; exact putSel_upk 4 hb_ rfl rfl rfl), fun _ => (by (with_reducible repeat (first | refine blk_drewN ?_ _ | refine blk_drew ?_ | refine blk_alloc ?_ _)); exact BK213.out), fun h0_ => absurd ((hon 3 (by kernel_rfl)).symm.trans h0_) (by decide), (by repeat (first | (with_reducible first | exact HK.out | apply KeepBut.set_ | apply keep_drewN | apply keep_drew | apply keep_alloc | refine keep_far ?_ GW213.out _) | exact HK.out)), (by repeat (first | (with_reducible first | exact HB.out | apply below_alloc | apply pw_below_drewN | apply below_drew1 | refine below_set ?_ (IsS99.ge HI0.out) | refine below_set ?_ GE213.out) | exact HB.out)), fun _ => (by (with_reducible repeat (first | apply Kd.R_alloc | apply Kd.R_drewN | apply Kd.R_drew)); exact HO219.out), fun _ => ⟨_, rfl⟩, fun _ h1_ => absurd ((up_self b 6).symm.trans h1_) (by decide), fun _ _ => (by repeat (first | (with_reducible first | exact HI0.out | apply IsS99.alloc | apply IsS99.drewN | apply IsS99.drew | apply IsS99.set_1 | apply IsS99.set_2 | refine IsS99.far ?_ NB0_213.out _) | exact HI0.out)), fun h0_ _ => absurd ((hoff 8 (by kernel_rfl)).symm.trans h0_) (by decide), fun h0_ _ => absurd ((hoff 10 (by kernel_rfl)).symm.trans h0_) (by decide), fun h0_ => absurd ((hoff 11 (by kernel_rfl)).symm.trans h0_) (by decide), fun h0_ => absurd ((hoff 11 (by kernel_rfl)).symm.trans h0_) (by decide), fun h0_ _ => absurd ((hoff 13 (by kernel_rfl)).symm.trans h0_) (by decide), fun h0_ => absurd ((hoff 17 (by kernel_rfl)).symm.trans h0_) (by decide), fun h0_ => absurd ((hoff 19 (by kernel_rfl)).symm.trans h0_) (by decide), Q_X4_, fun h0_ => absurd ((hoff 14 (by kernel_rfl)).symm.trans h0_) (by decide)⟩
              refine steps_cons ?_ ?_
              · rintro b a w' ⟨v218, adz_v218, v234, adz_v234, m4_, m14_, ha, Q_BK213, Q_HI0, Q_HK, Q_HB, Q_HO219, Q_HA_HO219, Q_HI0_e3, Q_HI0_e6, Q_HI0_e8, Q_HI0_e10, Q_HO235, Q_HA_HO235, Q_HI0_e13, Q_HI0_e17, Q_BK213_e19, Q_X4_, Q_X14_⟩ hb_ hon hoff
                refine ⟨_, rfl, fun K hK => ?_⟩
                have e13 : a.tmps[13]? = some (.pointer (some ⟨g, 0, none⟩)) := by rw [ha]; exact (putSel_off rfl).trans rfl
                replace ha := Aside0.mk ha
                have BK213 := Aside0.mk (Q_BK213 (hoff 19 (by kernel_rfl)))
                have HK := Aside0.mk Q_HK
                have HB := Aside0.mk Q_HB
                have HO219 := Aside0.mk (Q_HO219 (hon 1 (by kernel_rfl)))
                have HA_HO219 := Aside0.mk (Q_HA_HO219 (hon 1 (by kernel_rfl)))
                have HI0 := Aside0.mk (Q_HI0_e6 (hon 6 (by kernel_rfl)) hb_)
                obtain ⟨co27, eo27⟩ := HA_HO219.out
                clear HA_HO219
                subst eo27
                refine goes_ Try.func94 (by kernel_rfl) rfl #[.pointer (some ⟨g, 0, none⟩), .int .i64 3] (by rfl) rfl rfl (by first | (simp only [List.map_toArray, List.map_cons, List.map_nil, Act.eval, Array.getD_eq_getD_getElem?, Option.getD_some, e13]; done) | (simp only [List.map_toArray, List.map_cons, List.map_nil, Act.eval, Array.getD_eq_getD_getElem?, Option.getD_some, e13]; rfl)) ?_
                with_reducible refine (spec_l01Cur_pick.calls g s0_0 t225 t226 3 t227 t228 t229 w0 _ ?side1 ?side2 A12.out).mono ?_
                (case side1 => repeat (first | (with_reducible first | exact HI0.out | apply IsS99.alloc | apply IsS99.drewN | apply IsS99.drew | apply IsS99.set_1 | apply IsS99.set_2 | refine IsS99.far ?_ NB0_213.out _) | exact HI0.out))
                (case side2 => repeat (first | (with_reducible first | exact HB.out | apply below_alloc | apply pw_below_drewN | apply below_drew1 | refine below_set ?_ (IsS99.ge HI0.out) | refine below_set ?_ GE213.out) | exact HB.out))
                rintro e w28 ⟨rfl, hi, hb, hk⟩
                refine ⟨_, rfl, ?_⟩
                have n0_ := Aside0.mk (KeepBut.blk hk (g' := gb213) (o := .cells #[.bool false, .int .i64 0, .int .i64 0, .string (⟨#[]⟩ : ByteArray)] 26 (0, 0)) (by (with_reducible repeat (first | refine blk_drewN ?_ _ | refine blk_drew ?_ | refine blk_alloc ?_ _)); exact BK213.out) NB213_0.out (by simp))
                have n1_ := Aside0.mk (Kd.R_mono (Kd.R_keep (IsS99.apart (show IsS99 w0 _ g s0_0 t225 t226 from by repeat (first | (with_reducible first | exact HI0.out | apply IsS99.alloc | apply IsS99.drewN | apply IsS99.drew | apply IsS99.set_1 | apply IsS99.set_2 | refine IsS99.far ?_ NB0_213.out _) | exact HI0.out)) (by (with_reducible repeat (first | apply Kd.R_alloc | apply Kd.R_drewN | apply Kd.R_drew)); exact HO219.out) (by decide)) hk (fun _ h => h.2)) (fun _ h => h.1))
                have n2_ := Aside0.mk (KeepBut.trans (by repeat (first | (with_reducible first | exact HK.out | apply KeepBut.set_ | apply keep_drewN | apply keep_drew | apply keep_alloc | refine keep_far ?_ GW213.out _) | exact HK.out)) hk (.inl rfl))
                have n3_ := Aside0.mk (hb)
                have n4_ := Aside0.mk (hi)
                clear BK213
                clear HO219
                clear HK
                clear HB
                clear HI0
                have BK213 := n0_
                have HO219 := n1_
                have HK := n2_
                have HB := n3_
                have HI0 := n4_
                clear n0_ n1_ n2_ n3_ n4_
                (try clear hb)
                (try clear hb2)
                (try clear hk)
                (try clear hi)
                refine hK.out _ _ ⟨.slice (some adz_v218) y217.length co27, adz_v218, v234, adz_v234, m4_, m14_, (by rw [ha.out]; exact putSel_upk 5 hb_ rfl rfl rfl), fun _ => (by (with_reducible repeat (first | refine blk_drewN ?_ _ | refine blk_drew ?_ | refine blk_alloc ?_ _)); exact BK213.out), fun h0_ => absurd ((hon 3 (by kernel_rfl)).symm.trans h0_) (by decide), (by repeat (first | (with_reducible first | exact HK.out | apply KeepBut.set_ | apply keep_drewN | apply keep_drew | apply keep_alloc | refine keep_far ?_ GW213.out _) | exact HK.out)), (by repeat (first | (with_reducible first | exact HB.out | apply below_alloc | apply pw_below_drewN | apply below_drew1 | refine below_set ?_ (IsS99.ge HI0.out) | refine below_set ?_ GE213.out) | exact HB.out)), fun _ => (by (with_reducible repeat (first | apply Kd.R_alloc | apply Kd.R_drewN | apply Kd.R_drew)); exact HO219.out), fun _ => ⟨_, rfl⟩, fun _ h1_ => absurd ((hon 6 (by kernel_rfl)).symm.trans h1_) (by decide), fun _ h1_ => absurd ((up_self b 8).symm.trans h1_) (by decide), fun _ _ => (by repeat (first | (with_reducible first | exact HI0.out | apply IsS99.alloc | apply IsS99.drewN | apply IsS99.drew | apply IsS99.set_1 | apply IsS99.set_2 | refine IsS99.far ?_ NB0_213.out _) | exact HI0.out)), fun h0_ _ => absurd ((hoff 10 (by kernel_rfl)).symm.trans h0_) (by decide), fun h0_ => absurd ((hoff 11 (by kernel_rfl)).symm.trans h0_) (by decide), fun h0_ => absurd ((hoff 11 (by kernel_rfl)).symm.trans h0_) (by decide), fun h0_ _ => absurd ((hoff 13 (by kernel_rfl)).symm.trans h0_) (by decide), fun h0_ => absurd ((hoff 17 (by kernel_rfl)).symm.trans h0_) (by decide), fun h0_ => absurd ((hoff 19 (by kernel_rfl)).symm.trans h0_) (by decide), Q_X4_, fun h0_ => absurd ((hoff 14 (by kernel_rfl)).symm.trans h0_) (by decide)⟩
              refine steps_cons ?_ ?_
              · rintro b a w' ⟨v218, adz_v218, v234, adz_v234, m4_, m14_, ha, Q_BK213, Q_HI0, Q_HK, Q_HB, Q_HO219, Q_HA_HO219, Q_HI0_e3, Q_HI0_e6, Q_HI0_e8, Q_HI0_e10, Q_HO235, Q_HA_HO235, Q_HI0_e13, Q_HI0_e17, Q_BK213_e19, Q_X4_, Q_X14_⟩ hb_ hon hoff
                refine ⟨_, rfl, fun K hK => ?_⟩
                have e15 : a.tmps[15]? = some (.pointer (some ⟨g, 0, none⟩)) := by rw [ha]; exact (putSel_off rfl).trans rfl
                replace ha := Aside0.mk ha
                have BK213 := Aside0.mk (Q_BK213 (hoff 19 (by kernel_rfl)))
                have HK := Aside0.mk Q_HK
                have HB := Aside0.mk Q_HB
                have HO219 := Aside0.mk (Q_HO219 (hon 1 (by kernel_rfl)))
                have HA_HO219 := Aside0.mk (Q_HA_HO219 (hon 1 (by kernel_rfl)))
                have HI0 := Aside0.mk (Q_HI0_e8 (hon 8 (by kernel_rfl)) hb_)
                obtain ⟨co28, eo28⟩ := HA_HO219.out
                clear HA_HO219
                subst eo28
                refine goes_ Try.func114 (by kernel_rfl) rfl #[.pointer (some ⟨g, 0, none⟩), .int .i64 65536] (by rfl) rfl rfl (by first | (simp only [List.map_toArray, List.map_cons, List.map_nil, Act.eval, Array.getD_eq_getD_getElem?, Option.getD_some, e15]; done) | (simp only [List.map_toArray, List.map_cons, List.map_nil, Act.eval, Array.getD_eq_getD_getElem?, Option.getD_some, e15]; rfl)) ?_
                with_reducible refine (spec_l01Cur_wide.calls g s0_0 t228 t229 65536 t230 t231 t232 w0 _ ?side1 ?side2 A13.out).mono ?_
                (case side1 => repeat (first | (with_reducible first | exact HI0.out | apply IsS99.alloc | apply IsS99.drewN | apply IsS99.drew | apply IsS99.set_1 | apply IsS99.set_2 | refine IsS99.far ?_ NB0_213.out _) | exact HI0.out))
                (case side2 => repeat (first | (with_reducible first | exact HB.out | apply below_alloc | apply pw_below_drewN | apply below_drew1 | refine below_set ?_ (IsS99.ge HI0.out) | refine below_set ?_ GE213.out) | exact HB.out))
                rintro e w29 ⟨rfl, hi, hb, hk⟩
                refine ⟨_, rfl, ?_⟩
                have n0_ := Aside0.mk (KeepBut.blk hk (g' := gb213) (o := .cells #[.bool false, .int .i64 0, .int .i64 0, .string (⟨#[]⟩ : ByteArray)] 26 (0, 0)) (by (with_reducible repeat (first | refine blk_drewN ?_ _ | refine blk_drew ?_ | refine blk_alloc ?_ _)); exact BK213.out) NB213_0.out (by simp))
                have n1_ := Aside0.mk (Kd.R_mono (Kd.R_keep (IsS99.apart (show IsS99 w0 _ g s0_0 t228 t229 from by repeat (first | (with_reducible first | exact HI0.out | apply IsS99.alloc | apply IsS99.drewN | apply IsS99.drew | apply IsS99.set_1 | apply IsS99.set_2 | refine IsS99.far ?_ NB0_213.out _) | exact HI0.out)) (by (with_reducible repeat (first | apply Kd.R_alloc | apply Kd.R_drewN | apply Kd.R_drew)); exact HO219.out) (by decide)) hk (fun _ h => h.2)) (fun _ h => h.1))
                have n2_ := Aside0.mk (KeepBut.trans (by repeat (first | (with_reducible first | exact HK.out | apply KeepBut.set_ | apply keep_drewN | apply keep_drew | apply keep_alloc | refine keep_far ?_ GW213.out _) | exact HK.out)) hk (.inl rfl))
                have n3_ := Aside0.mk (hb)
                have n4_ := Aside0.mk (hi)
                clear BK213
                clear HO219
                clear HK
                clear HB
                clear HI0
                have BK213 := n0_
                have HO219 := n1_
                have HK := n2_
                have HB := n3_
                have HI0 := n4_
                clear n0_ n1_ n2_ n3_ n4_
                (try clear hb)
                (try clear hb2)
                (try clear hk)
                (try clear hi)
                refine hK.out _ _ ⟨.slice (some adz_v218) y217.length co28, adz_v218, v234, adz_v234, m4_, m14_, (by rw [ha.out]; exact putSel_upk 6 hb_ rfl rfl rfl), fun _ => (by (with_reducible repeat (first | refine blk_drewN ?_ _ | refine blk_drew ?_ | refine blk_alloc ?_ _)); exact BK213.out), fun h0_ => absurd ((hon 3 (by kernel_rfl)).symm.trans h0_) (by decide), (by repeat (first | (with_reducible first | exact HK.out | apply KeepBut.set_ | apply keep_drewN | apply keep_drew | apply keep_alloc | refine keep_far ?_ GW213.out _) | exact HK.out)), (by repeat (first | (with_reducible first | exact HB.out | apply below_alloc | apply pw_below_drewN | apply below_drew1 | refine below_set ?_ (IsS99.ge HI0.out) | refine below_set ?_ GE213.out) | exact HB.out)), fun _ => (by (with_reducible repeat (first | apply Kd.R_alloc | apply Kd.R_drewN | apply Kd.R_drew)); exact HO219.out), fun _ => ⟨_, rfl⟩, fun _ h1_ => absurd ((hon 6 (by kernel_rfl)).symm.trans h1_) (by decide), fun _ h1_ => absurd ((hon 8 (by kernel_rfl)).symm.trans h1_) (by decide), fun _ h1_ => absurd ((up_self b 10).symm.trans h1_) (by decide), fun _ _ => (by repeat (first | (with_reducible first | exact HI0.out | apply IsS99.alloc | apply IsS99.drewN | apply IsS99.drew | apply IsS99.set_1 | apply IsS99.set_2 | refine IsS99.far ?_ NB0_213.out _) | exact HI0.out)), fun h0_ => absurd ((hoff 11 (by kernel_rfl)).symm.trans h0_) (by decide), fun h0_ => absurd ((hoff 11 (by kernel_rfl)).symm.trans h0_) (by decide), fun h0_ _ => absurd ((hoff 13 (by kernel_rfl)).symm.trans h0_) (by decide), fun h0_ => absurd ((hoff 17 (by kernel_rfl)).symm.trans h0_) (by decide), fun h0_ => absurd ((hoff 19 (by kernel_rfl)).symm.trans h0_) (by decide), Q_X4_, fun h0_ => absurd ((hoff 14 (by kernel_rfl)).symm.trans h0_) (by decide)⟩
              refine steps_cons ?_ ?_
              · rintro b a w' ⟨v218, adz_v218, v234, adz_v234, m4_, m14_, ha, Q_BK213, Q_HI0, Q_HK, Q_HB, Q_HO219, Q_HA_HO219, Q_HI0_e3, Q_HI0_e6, Q_HI0_e8, Q_HI0_e10, Q_HO235, Q_HA_HO235, Q_HI0_e13, Q_HI0_e17, Q_BK213_e19, Q_X4_, Q_X14_⟩ hb_ hon hoff
                refine ⟨_, rfl, fun K hK => ?_⟩
                have e14 : a.tmps[14]? = some (.int .i64 t227) := by rw [ha]; exact putSel_on (e := (8, 14, .int .i64 t227)) 5 rfl rfl (hon 8 (by kernel_rfl)) rfl
                have e16 : a.tmps[16]? = some (.int .i64 t230) := by rw [ha]; exact putSel_on (e := (10, 16, .int .i64 t230)) 6 rfl rfl (hon 10 (by kernel_rfl)) rfl
                replace ha := Aside0.mk ha
                have BK213 := Aside0.mk (Q_BK213 (hoff 19 (by kernel_rfl)))
                have HK := Aside0.mk Q_HK
                have HB := Aside0.mk Q_HB
                have HO219 := Aside0.mk (Q_HO219 (hon 1 (by kernel_rfl)))
                have HA_HO219 := Aside0.mk (Q_HA_HO219 (hon 1 (by kernel_rfl)))
                obtain ⟨co29, eo29⟩ := HA_HO219.out
                clear HA_HO219
                subst eo29
                refine Kd.R_lit_step (Kd.int .i64) _ 3 ?hg (N := 17) ?hd (xs := ([t227, t230, 65535] : List Int)) (inner := [.int .i64 t227, .int .i64 t230, .int .i64 65535]) (ok := fun _ => True) (okp := fun _ => True) ?hr ?hp (fun _ hk => hk) trivial (Below.refl _ _) (Nat.le_refl _) (by simp) ?_; (case hd => rfl); (case hg => rfl); (case hr => first | (go_simp; done) | (go_simp; rfl)); (case hp => exact (Reps.one (show Kd.M (Kd.int .i64) _ _ _ t227 [.int .i64 t227] from rfl) (Reps.one (show Kd.M (Kd.int .i64) _ _ _ t230 [.int .i64 t230] from rfl) (Reps.one (show Kd.M (Kd.int .i64) _ _ _ 65535 [.int .i64 65535] from rfl) (Reps.none _ _)))))
                intro v234 w30 ho31 hb hg_ hnew_
                clear hg_ hnew_
                (first | rw [← Ny233.out] at ho31 | (simp only [Int.reduceToNat] at ho31; rw [← Ny233.out] at ho31))
                have n0_ := Aside0.mk (Kd.R_elder' (by (with_reducible repeat (first | apply Kd.R_alloc | apply Kd.R_drewN | apply Kd.R_drew)); exact HO219.out) (Kd.R_base ho31) hb)
                have n1_ := Aside0.mk (Kd.R_lower (Kd.R_new' ho31 (Kd.R_lt (by (with_reducible repeat (first | apply Kd.R_alloc | apply Kd.R_drewN | apply Kd.R_drew)); exact HO219.out))) (keep_size (w := w) (g := g) (row := none) (by repeat (first | (with_reducible first | exact HK.out | apply KeepBut.set_ | apply keep_drewN | apply keep_drew | apply keep_alloc | refine keep_far ?_ GW213.out _) | exact HK.out))))
                have n3_ := Aside0.mk (blk_below (g := gb213) (o := .cells #[.bool false, .int .i64 0, .int .i64 0, .string (⟨#[]⟩ : ByteArray)] 26 (0, 0)) (by (with_reducible repeat (first | refine blk_drewN ?_ _ | refine blk_drew ?_ | refine blk_alloc ?_ _)); exact BK213.out) hb)
                have n4_ := Aside0.mk (KeepBut.trans (by repeat (first | (with_reducible first | exact HK.out | apply KeepBut.set_ | apply keep_drewN | apply keep_drew | apply keep_alloc | refine keep_far ?_ GW213.out _) | exact HK.out)) (KeepBut.of_below hb g none) (.inl rfl))
                have n5_ := Aside0.mk (below_step (by repeat (first | (with_reducible first | exact HB.out | apply below_alloc | apply pw_below_drewN | apply below_drew1 | refine below_set ?_ GE213.out) | exact HB.out)) hb)
                have z_HI0_e10 := fun (h0_ : b 10 = true) (h1_ : b 13 = false) => (show IsS99 w0 w30 g s0_0 t231 t232 from by first | exact (IsS99.below (by repeat (first | (with_reducible first | exact (Q_HI0_e10 h0_ h1_) | apply IsS99.alloc | apply IsS99.drewN | apply IsS99.drew | apply IsS99.set_1 | apply IsS99.set_2 | refine IsS99.far ?_ NB0_213.out _) | exact (Q_HI0_e10 h0_ h1_))) hb))
                have z_HI0_e13 := fun (h0_ : b 13 = true) (h1_ : b 17 = false) => (show IsS99 w0 w30 g s0_0 t237 t238 from by first | exact (IsS99.below (by repeat (first | (with_reducible first | exact (Q_HI0_e13 h0_ h1_) | apply IsS99.alloc | apply IsS99.drewN | apply IsS99.drew | apply IsS99.set_1 | apply IsS99.set_2 | refine IsS99.far ?_ NB0_213.out _) | exact (Q_HI0_e13 h0_ h1_))) hb))
                have z_HI0_e17 := fun (h0_ : b 17 = true) => (show IsS99 w0 w30 g s0_0 t241 t242 from by first | exact (IsS99.below (by repeat (first | (with_reducible first | exact (Q_HI0_e17 h0_) | apply IsS99.alloc | apply IsS99.drewN | apply IsS99.drew | apply IsS99.set_1 | apply IsS99.set_2 | refine IsS99.far ?_ NB0_213.out _) | exact (Q_HI0_e17 h0_))) hb))
                clear HO219
                clear BK213
                clear HK
                clear HB
                have HO219 := n0_
                have HO235 := n1_
                have BK213 := n3_
                have HK := n4_
                have HB := n5_
                clear n0_ n1_ n3_ n4_ n5_
                clear hb ho31
                obtain ⟨Ao32, co32, eo32⟩ := Kd.R_slice HO235.out
                subst eo32
                obtain ⟨ado32, fo32, _⟩ := Kd.at_int (Kd.R_reads' HO235.out).2.2 0 (by decide) (by rw [Ny233.out]; simp)
                cases fo32
                refine hK.out _ _ ⟨.slice (some adz_v218) y217.length co29, adz_v218, .slice (some ado32) y233.length co32, ado32, m4_, m14_, (by rw [ha.out]; exact putSel_upk 7 hb_ rfl rfl rfl), fun _ => (by (with_reducible repeat (first | refine blk_drewN ?_ _ | refine blk_drew ?_ | refine blk_alloc ?_ _)); exact BK213.out), fun h0_ => absurd ((hon 3 (by kernel_rfl)).symm.trans h0_) (by decide), (by repeat (first | (with_reducible first | exact HK.out | apply KeepBut.set_ | apply keep_drewN | apply keep_drew | apply keep_alloc | refine keep_far ?_ GW213.out _) | exact HK.out)), (by repeat (first | (with_reducible first | exact HB.out | apply below_alloc | apply pw_below_drewN | apply below_drew1 | refine below_set ?_ GE213.out) | exact HB.out)), fun _ => (by (with_reducible repeat (first | apply Kd.R_alloc | apply Kd.R_drewN | apply Kd.R_drew)); exact Kd.R_mono HO219.out (fun _ hk => by first | exact hk.2 | trivial)), fun _ => ⟨_, rfl⟩, fun _ h1_ => absurd ((hon 6 (by kernel_rfl)).symm.trans h1_) (by decide), fun _ h1_ => absurd ((hon 8 (by kernel_rfl)).symm.trans h1_) (by decide), fun _ h1_ => absurd ((hon 10 (by kernel_rfl)).symm.trans h1_) (by decide), z_HI0_e10, fun _ => (by (with_reducible repeat (first | apply Kd.R_alloc | apply Kd.R_drewN | apply Kd.R_drew)); exact Kd.R_mono HO235.out (fun _ hk => by first | exact hk.2 | trivial)), fun _ => ⟨_, rfl⟩, z_HI0_e13, z_HI0_e17, fun h0_ => absurd ((hoff 19 (by kernel_rfl)).symm.trans h0_) (by decide), Q_X4_, fun h0_ => absurd ((hoff 14 (by kernel_rfl)).symm.trans h0_) (by decide)⟩
              refine steps_cons ?_ ?_
              · rintro b a w' ⟨v218, adz_v218, v234, adz_v234, m4_, m14_, ha, Q_BK213, Q_HI0, Q_HK, Q_HB, Q_HO219, Q_HA_HO219, Q_HI0_e3, Q_HI0_e6, Q_HI0_e8, Q_HI0_e10, Q_HO235, Q_HA_HO235, Q_HI0_e13, Q_HI0_e17, Q_BK213_e19, Q_X4_, Q_X14_⟩ hb_ hon hoff
                refine ⟨_, rfl, fun K hK => ?_⟩
                have e18 : a.tmps[18]? = some (.pointer (some ⟨g, 0, none⟩)) := by rw [ha]; exact (putSel_off rfl).trans rfl
                replace ha := Aside0.mk ha
                have BK213 := Aside0.mk (Q_BK213 (hoff 19 (by kernel_rfl)))
                have HK := Aside0.mk Q_HK
                have HB := Aside0.mk Q_HB
                have HO219 := Aside0.mk (Q_HO219 (hon 1 (by kernel_rfl)))
                have HA_HO219 := Aside0.mk (Q_HA_HO219 (hon 1 (by kernel_rfl)))
                have HI0 := Aside0.mk (Q_HI0_e10 (hon 10 (by kernel_rfl)) hb_)
                obtain ⟨co29, eo29⟩ := HA_HO219.out
                clear HA_HO219
                subst eo29
                refine goes_ Try.func94 (by kernel_rfl) rfl #[.pointer (some ⟨g, 0, none⟩), .int .i64 3] (by rfl) rfl rfl (by first | (simp only [List.map_toArray, List.map_cons, List.map_nil, Act.eval, Array.getD_eq_getD_getElem?, Option.getD_some, e18]; done) | (simp only [List.map_toArray, List.map_cons, List.map_nil, Act.eval, Array.getD_eq_getD_getElem?, Option.getD_some, e18]; rfl)) ?_
                with_reducible refine (spec_l01Cur_pick.calls g s0_0 t231 t232 3 t236 t237 t238 w0 _ ?side1 ?side2 A14.out).mono ?_
                (case side1 => repeat (first | (with_reducible first | exact HI0.out | apply IsS99.alloc | apply IsS99.drewN | apply IsS99.drew | apply IsS99.set_1 | apply IsS99.set_2 | refine IsS99.far ?_ NB0_213.out _) | exact HI0.out))
                (case side2 => repeat (first | (with_reducible first | exact HB.out | apply below_alloc | apply pw_below_drewN | apply below_drew1 | refine below_set ?_ (IsS99.ge HI0.out) | refine below_set ?_ GE213.out) | exact HB.out))
                rintro e w30 ⟨rfl, hi, hb, hk⟩
                refine ⟨_, rfl, ?_⟩
                have n0_ := Aside0.mk (KeepBut.blk hk (g' := gb213) (o := .cells #[.bool false, .int .i64 0, .int .i64 0, .string (⟨#[]⟩ : ByteArray)] 26 (0, 0)) (by (with_reducible repeat (first | refine blk_drewN ?_ _ | refine blk_drew ?_ | refine blk_alloc ?_ _)); exact BK213.out) NB213_0.out (by simp))
                have n1_ := Aside0.mk (Kd.R_mono (Kd.R_keep (IsS99.apart (show IsS99 w0 _ g s0_0 t231 t232 from by repeat (first | (with_reducible first | exact HI0.out | apply IsS99.alloc | apply IsS99.drewN | apply IsS99.drew | apply IsS99.set_1 | apply IsS99.set_2 | refine IsS99.far ?_ NB0_213.out _) | exact HI0.out)) (by (with_reducible repeat (first | apply Kd.R_alloc | apply Kd.R_drewN | apply Kd.R_drew)); exact HO219.out) (by decide)) hk (fun _ h => h.2)) (fun _ h => h.1))
                have n2_ := Aside0.mk (KeepBut.trans (by repeat (first | (with_reducible first | exact HK.out | apply KeepBut.set_ | apply keep_drewN | apply keep_drew | apply keep_alloc | refine keep_far ?_ GW213.out _) | exact HK.out)) hk (.inl rfl))
                have n3_ := Aside0.mk (hb)
                have n4_ := Aside0.mk (hi)
                have z_HO235 := fun (h0_ : b 11 = true) => (show Kd.R (Kd.int .i64) 3 w30 w.heap.size (fun _ => True) v234 y233 from by first | exact (Kd.R_mono (Kd.R_keep (IsS99.apart (show IsS99 w0 _ g s0_0 t231 t232 from by repeat (first | (with_reducible first | exact HI0.out | apply IsS99.alloc | apply IsS99.drewN | apply IsS99.drew | apply IsS99.set_1 | apply IsS99.set_2 | refine IsS99.far ?_ NB0_213.out _) | exact HI0.out)) (by (with_reducible repeat (first | apply Kd.R_alloc | apply Kd.R_drewN | apply Kd.R_drew)); exact (Q_HO235 h0_)) (by decide)) hk (fun _ h => h.2)) (fun _ h => h.1)) | exact Kd.R_mono (Kd.R_mono (Kd.R_keep (IsS99.apart (show IsS99 w0 _ g s0_0 t231 t232 from by repeat (first | (with_reducible first | exact HI0.out | apply IsS99.alloc | apply IsS99.drewN | apply IsS99.drew | apply IsS99.set_1 | apply IsS99.set_2 | refine IsS99.far ?_ NB0_213.out _) | exact HI0.out)) (by (with_reducible repeat (first | apply Kd.R_alloc | apply Kd.R_drewN | apply Kd.R_drew)); exact (Q_HO235 h0_)) (by decide)) hk (fun _ h => h.2)) (fun _ h => h.1)) (fun _ h_ => by first | trivial | exact h_ | exact h_.1))
                clear BK213
                clear HO219
                clear HK
                clear HB
                clear HI0
                have BK213 := n0_
                have HO219 := n1_
                have HK := n2_
                have HB := n3_
                have HI0 := n4_
                clear n0_ n1_ n2_ n3_ n4_
                (try clear hb)
                (try clear hb2)
                (try clear hk)
                (try clear hi)
                refine hK.out _ _ ⟨.slice (some adz_v218) y217.length co29, adz_v218, v234, adz_v234, m4_, m14_, (by rw [ha.out]; exact putSel_upk 8 hb_ rfl rfl rfl), fun _ => (by (with_reducible repeat (first | refine blk_drewN ?_ _ | refine blk_drew ?_ | refine blk_alloc ?_ _)); exact BK213.out), fun h0_ => absurd ((hon 3 (by kernel_rfl)).symm.trans h0_) (by decide), (by repeat (first | (with_reducible first | exact HK.out | apply KeepBut.set_ | apply keep_drewN | apply keep_drew | apply keep_alloc | refine keep_far ?_ GW213.out _) | exact HK.out)), (by repeat (first | (with_reducible first | exact HB.out | apply below_alloc | apply pw_below_drewN | apply below_drew1 | refine below_set ?_ (IsS99.ge HI0.out) | refine below_set ?_ GE213.out) | exact HB.out)), fun _ => (by (with_reducible repeat (first | apply Kd.R_alloc | apply Kd.R_drewN | apply Kd.R_drew)); exact HO219.out), fun _ => ⟨_, rfl⟩, fun _ h1_ => absurd ((hon 6 (by kernel_rfl)).symm.trans h1_) (by decide), fun _ h1_ => absurd ((hon 8 (by kernel_rfl)).symm.trans h1_) (by decide), fun _ h1_ => absurd ((hon 10 (by kernel_rfl)).symm.trans h1_) (by decide), fun _ h1_ => absurd ((up_self b 13).symm.trans h1_) (by decide), z_HO235, Q_HA_HO235, fun _ _ => (by repeat (first | (with_reducible first | exact HI0.out | apply IsS99.alloc | apply IsS99.drewN | apply IsS99.drew | apply IsS99.set_1 | apply IsS99.set_2 | refine IsS99.far ?_ NB0_213.out _) | exact HI0.out)), fun h0_ => absurd ((hoff 17 (by kernel_rfl)).symm.trans h0_) (by decide), fun h0_ => absurd ((hoff 19 (by kernel_rfl)).symm.trans h0_) (by decide), Q_X4_, fun h0_ => absurd ((hoff 14 (by kernel_rfl)).symm.trans h0_) (by decide)⟩
              refine steps_cons ?_ ?_
              · rintro b a w' ⟨v218, adz_v218, v234, adz_v234, m4_, m14_, ha, Q_BK213, Q_HI0, Q_HK, Q_HB, Q_HO219, Q_HA_HO219, Q_HI0_e3, Q_HI0_e6, Q_HI0_e8, Q_HI0_e10, Q_HO235, Q_HA_HO235, Q_HI0_e13, Q_HI0_e17, Q_BK213_e19, Q_X4_, Q_X14_⟩ hb_ hon hoff
                refine ⟨_, rfl, fun K hK => ?_⟩
                have e17 : a.tmps[17]? = some (v234) := by rw [ha]; exact putSel_on (e := (11, 17, v234)) 7 rfl rfl (hon 11 (by kernel_rfl)) rfl
                have e19 : a.tmps[19]? = some (.int .i64 t236) := by rw [ha]; exact putSel_on (e := (13, 19, .int .i64 t236)) 8 rfl rfl (hon 13 (by kernel_rfl)) rfl
                replace ha := Aside0.mk ha
                have BK213 := Aside0.mk (Q_BK213 (hoff 19 (by kernel_rfl)))
                have HK := Aside0.mk Q_HK
                have HB := Aside0.mk Q_HB
                have HO219 := Aside0.mk (Q_HO219 (hon 1 (by kernel_rfl)))
                have HA_HO219 := Aside0.mk (Q_HA_HO219 (hon 1 (by kernel_rfl)))
                have HO235 := Aside0.mk (Q_HO235 (hon 11 (by kernel_rfl)))
                have HA_HO235 := Aside0.mk (Q_HA_HO235 (hon 11 (by kernel_rfl)))
                obtain ⟨c_, hv_⟩ := HA_HO235.out
                rw [hv_] at e17
                refine value_ (w1 := w') (v := .pointer (some (adz_v234.add (t236).toNat))) (by rfl) rfl ?_ ?_
                · go_simp
                  (try simp only [i64_w])
                  try rfl
                refine hK.out _ _ ⟨v218, adz_v218, v234, adz_v234, m4_, (.pointer (some (adz_v234.add (t236).toNat))), (by rw [ha.out]; exact putSel_upk 9 hb_ rfl rfl rfl), Q_BK213, fun h0_ => absurd ((hon 3 (by kernel_rfl)).symm.trans h0_) (by decide), Q_HK, Q_HB, Q_HO219, Q_HA_HO219, fun _ h1_ => absurd ((hon 6 (by kernel_rfl)).symm.trans h1_) (by decide), fun _ h1_ => absurd ((hon 8 (by kernel_rfl)).symm.trans h1_) (by decide), fun _ h1_ => absurd ((hon 10 (by kernel_rfl)).symm.trans h1_) (by decide), fun _ h1_ => absurd ((hon 13 (by kernel_rfl)).symm.trans h1_) (by decide), Q_HO235, Q_HA_HO235, Q_HI0_e13, Q_HI0_e17, fun h0_ => absurd ((hoff 19 (by kernel_rfl)).symm.trans h0_) (by decide), Q_X4_, fun _ => rfl⟩
              refine steps_cons ?_ ?_
              · rintro b a w' ⟨v218, adz_v218, v234, adz_v234, m4_, m14_, ha, Q_BK213, Q_HI0, Q_HK, Q_HB, Q_HO219, Q_HA_HO219, Q_HI0_e3, Q_HI0_e6, Q_HI0_e8, Q_HI0_e10, Q_HO235, Q_HA_HO235, Q_HI0_e13, Q_HI0_e17, Q_BK213_e19, Q_X4_, Q_X14_⟩ hb_ hon hoff
                refine ⟨_, rfl, fun K hK => ?_⟩
                have e20 : a.tmps[20]? = some (m14_) := by rw [ha]; exact putSel_on (e := (14, 20, m14_)) 9 rfl rfl (hon 14 (by kernel_rfl)) rfl
                rw [Q_X14_ (hon 14 (by kernel_rfl))] at e20
                replace ha := Aside0.mk ha
                have BK213 := Aside0.mk (Q_BK213 (hoff 19 (by kernel_rfl)))
                have HK := Aside0.mk Q_HK
                have HB := Aside0.mk Q_HB
                have HO219 := Aside0.mk (Q_HO219 (hon 1 (by kernel_rfl)))
                have HA_HO219 := Aside0.mk (Q_HA_HO219 (hon 1 (by kernel_rfl)))
                have HO235 := Aside0.mk (Q_HO235 (hon 11 (by kernel_rfl)))
                have HA_HO235 := Aside0.mk (Q_HA_HO235 (hon 11 (by kernel_rfl)))
                obtain ⟨c_, hv_⟩ := HA_HO235.out
                have hF_ := HO235.out
                rw [hv_] at hF_
                obtain ⟨ad_, ea_, hx_⟩ := Kd.at_int (Kd.R_reads' hF_).2.2 t236 (of_eq_true pi239) (of_eq_true qi239)
                cases ea_
                refine value_ (w1 := w') (v := .int .i64 (rd y233 t236)) (by rfl) rfl ?_ ?_
                · go_simp
                  (try simp only [i64_w])
                  try rfl
                refine hK.out _ _ ⟨v218, adz_v218, v234, adz_v234, m4_, m14_, (by rw [ha.out]; exact putSel_upk 10 hb_ rfl rfl rfl), Q_BK213, fun h0_ => absurd ((hon 3 (by kernel_rfl)).symm.trans h0_) (by decide), Q_HK, Q_HB, Q_HO219, Q_HA_HO219, fun _ h1_ => absurd ((hon 6 (by kernel_rfl)).symm.trans h1_) (by decide), fun _ h1_ => absurd ((hon 8 (by kernel_rfl)).symm.trans h1_) (by decide), fun _ h1_ => absurd ((hon 10 (by kernel_rfl)).symm.trans h1_) (by decide), fun _ h1_ => absurd ((hon 13 (by kernel_rfl)).symm.trans h1_) (by decide), Q_HO235, Q_HA_HO235, Q_HI0_e13, Q_HI0_e17, fun h0_ => absurd ((hoff 19 (by kernel_rfl)).symm.trans h0_) (by decide), Q_X4_, Q_X14_⟩
              refine steps_cons ?_ ?_
              · rintro b a w' ⟨v218, adz_v218, v234, adz_v234, m4_, m14_, ha, Q_BK213, Q_HI0, Q_HK, Q_HB, Q_HO219, Q_HA_HO219, Q_HI0_e3, Q_HI0_e6, Q_HI0_e8, Q_HI0_e10, Q_HO235, Q_HA_HO235, Q_HI0_e13, Q_HI0_e17, Q_BK213_e19, Q_X4_, Q_X14_⟩ hb_ hon hoff
                refine ⟨_, rfl, fun K hK => ?_⟩
                have e22 : a.tmps[22]? = some (.pointer (some ⟨g, 0, none⟩)) := by rw [ha]; exact (putSel_off rfl).trans rfl
                replace ha := Aside0.mk ha
                have BK213 := Aside0.mk (Q_BK213 (hoff 19 (by kernel_rfl)))
                have HK := Aside0.mk Q_HK
                have HB := Aside0.mk Q_HB
                have HO219 := Aside0.mk (Q_HO219 (hon 1 (by kernel_rfl)))
                have HA_HO219 := Aside0.mk (Q_HA_HO219 (hon 1 (by kernel_rfl)))
                have HI0 := Aside0.mk (Q_HI0_e13 (hon 13 (by kernel_rfl)) hb_)
                obtain ⟨co30, eo30⟩ := HA_HO219.out
                clear HA_HO219
                subst eo30
                refine goes_ Try.func115 (by kernel_rfl) rfl #[.pointer (some ⟨g, 0, none⟩)] (by rfl) rfl rfl (by first | (simp only [List.map_toArray, List.map_cons, List.map_nil, Act.eval, Array.getD_eq_getD_getElem?, Option.getD_some, e22]; done) | (simp only [List.map_toArray, List.map_cons, List.map_nil, Act.eval, Array.getD_eq_getD_getElem?, Option.getD_some, e22]; rfl)) ?_
                with_reducible refine (spec_l01Cur_word.calls k g s0_0 t237 t238 t240 t241 t242 w0 _ ?side1 ?side2 A17.out).mono ?_
                (case side1 => repeat (first | (with_reducible first | exact HI0.out | apply IsS99.alloc | apply IsS99.drewN | apply IsS99.drew | apply IsS99.set_1 | apply IsS99.set_2 | refine IsS99.far ?_ NB0_213.out _) | exact HI0.out))
                (case side2 => repeat (first | (with_reducible first | exact HB.out | apply below_alloc | apply pw_below_drewN | apply below_drew1 | refine below_set ?_ (IsS99.ge HI0.out) | refine below_set ?_ GE213.out) | exact HB.out))
                rintro e w31 ⟨rfl, hi, hb, hk⟩
                refine ⟨_, rfl, ?_⟩
                have n0_ := Aside0.mk (KeepBut.blk hk (g' := gb213) (o := .cells #[.bool false, .int .i64 0, .int .i64 0, .string (⟨#[]⟩ : ByteArray)] 26 (0, 0)) (by (with_reducible repeat (first | refine blk_drewN ?_ _ | refine blk_drew ?_ | refine blk_alloc ?_ _)); exact BK213.out) NB213_0.out (by simp))
                have n1_ := Aside0.mk (Kd.R_mono (Kd.R_keep (IsS99.apart (show IsS99 w0 _ g s0_0 t237 t238 from by repeat (first | (with_reducible first | exact HI0.out | apply IsS99.alloc | apply IsS99.drewN | apply IsS99.drew | apply IsS99.set_1 | apply IsS99.set_2 | refine IsS99.far ?_ NB0_213.out _) | exact HI0.out)) (by (with_reducible repeat (first | apply Kd.R_alloc | apply Kd.R_drewN | apply Kd.R_drew)); exact HO219.out) (by decide)) hk (fun _ h => h.2)) (fun _ h => h.1))
                have n2_ := Aside0.mk (KeepBut.trans (by repeat (first | (with_reducible first | exact HK.out | apply KeepBut.set_ | apply keep_drewN | apply keep_drew | apply keep_alloc | refine keep_far ?_ GW213.out _) | exact HK.out)) hk (.inl rfl))
                have n3_ := Aside0.mk (hb)
                have n4_ := Aside0.mk (hi)
                have z_HO235 := fun (h0_ : b 11 = true) => (show Kd.R (Kd.int .i64) 3 w31 w.heap.size (fun _ => True) v234 y233 from by first | exact (Kd.R_mono (Kd.R_keep (IsS99.apart (show IsS99 w0 _ g s0_0 t237 t238 from by repeat (first | (with_reducible first | exact HI0.out | apply IsS99.alloc | apply IsS99.drewN | apply IsS99.drew | apply IsS99.set_1 | apply IsS99.set_2 | refine IsS99.far ?_ NB0_213.out _) | exact HI0.out)) (by (with_reducible repeat (first | apply Kd.R_alloc | apply Kd.R_drewN | apply Kd.R_drew)); exact (Q_HO235 h0_)) (by decide)) hk (fun _ h => h.2)) (fun _ h => h.1)) | exact Kd.R_mono (Kd.R_mono (Kd.R_keep (IsS99.apart (show IsS99 w0 _ g s0_0 t237 t238 from by repeat (first | (with_reducible first | exact HI0.out | apply IsS99.alloc | apply IsS99.drewN | apply IsS99.drew | apply IsS99.set_1 | apply IsS99.set_2 | refine IsS99.far ?_ NB0_213.out _) | exact HI0.out)) (by (with_reducible repeat (first | apply Kd.R_alloc | apply Kd.R_drewN | apply Kd.R_drew)); exact (Q_HO235 h0_)) (by decide)) hk (fun _ h => h.2)) (fun _ h => h.1)) (fun _ h_ => by first | trivial | exact h_ | exact h_.1))
                clear BK213
                clear HO219
                clear HK
                clear HB
                clear HI0
                have BK213 := n0_
                have HO219 := n1_
                have HK := n2_
                have HB := n3_
                have HI0 := n4_
                clear n0_ n1_ n2_ n3_ n4_
                (try clear hb)
                (try clear hb2)
                (try clear hk)
                (try clear hi)
                refine hK.out _ _ ⟨.slice (some adz_v218) y217.length co30, adz_v218, v234, adz_v234, m4_, m14_, (by rw [ha.out]; exact putSel_upk 11 hb_ rfl rfl rfl), fun _ => (by (with_reducible repeat (first | refine blk_drewN ?_ _ | refine blk_drew ?_ | refine blk_alloc ?_ _)); exact BK213.out), fun h0_ => absurd ((hon 3 (by kernel_rfl)).symm.trans h0_) (by decide), (by repeat (first | (with_reducible first | exact HK.out | apply KeepBut.set_ | apply keep_drewN | apply keep_drew | apply keep_alloc | refine keep_far ?_ GW213.out _) | exact HK.out)), (by repeat (first | (with_reducible first | exact HB.out | apply below_alloc | apply pw_below_drewN | apply below_drew1 | refine below_set ?_ (IsS99.ge HI0.out) | refine below_set ?_ GE213.out) | exact HB.out)), fun _ => (by (with_reducible repeat (first | apply Kd.R_alloc | apply Kd.R_drewN | apply Kd.R_drew)); exact HO219.out), fun _ => ⟨_, rfl⟩, fun _ h1_ => absurd ((hon 6 (by kernel_rfl)).symm.trans h1_) (by decide), fun _ h1_ => absurd ((hon 8 (by kernel_rfl)).symm.trans h1_) (by decide), fun _ h1_ => absurd ((hon 10 (by kernel_rfl)).symm.trans h1_) (by decide), fun _ h1_ => absurd ((hon 13 (by kernel_rfl)).symm.trans h1_) (by decide), z_HO235, Q_HA_HO235, fun _ h1_ => absurd ((up_self b 17).symm.trans h1_) (by decide), fun _ => (by repeat (first | (with_reducible first | exact HI0.out | apply IsS99.alloc | apply IsS99.drewN | apply IsS99.drew | apply IsS99.set_1 | apply IsS99.set_2 | refine IsS99.far ?_ NB0_213.out _) | exact HI0.out)), fun h0_ => absurd ((hoff 19 (by kernel_rfl)).symm.trans h0_) (by decide), Q_X4_, Q_X14_⟩
              refine steps_cons ?_ ?_
              · rintro b a w' ⟨v218, adz_v218, v234, adz_v234, m4_, m14_, ha, Q_BK213, Q_HI0, Q_HK, Q_HB, Q_HO219, Q_HA_HO219, Q_HI0_e3, Q_HI0_e6, Q_HI0_e8, Q_HI0_e10, Q_HO235, Q_HA_HO235, Q_HI0_e13, Q_HI0_e17, Q_BK213_e19, Q_X4_, Q_X14_⟩ hb_ hon hoff
                refine ⟨_, rfl, fun K hK => ?_⟩
                have e12 : a.tmps[12]? = some (.int .i64 t224) := by rw [ha]; exact putSel_on (e := (6, 12, .int .i64 t224)) 4 rfl rfl (hon 6 (by kernel_rfl)) rfl
                have e21 : a.tmps[21]? = some (.int .i64 (rd y233 t236)) := by rw [ha]; exact putSel_on (e := (15, 21, .int .i64 (rd y233 t236))) 10 rfl rfl (hon 15 (by kernel_rfl)) rfl
                have e23 : a.tmps[23]? = some (.string t240) := by rw [ha]; exact putSel_on (e := (17, 23, .string t240)) 11 rfl rfl (hon 17 (by kernel_rfl)) rfl
                replace ha := Aside0.mk ha
                have BK213 := Aside0.mk (Q_BK213 (hoff 19 (by kernel_rfl)))
                have HK := Aside0.mk Q_HK
                have HB := Aside0.mk Q_HB
                have HO219 := Aside0.mk (Q_HO219 (hon 1 (by kernel_rfl)))
                have HA_HO219 := Aside0.mk (Q_HA_HO219 (hon 1 (by kernel_rfl)))
                have HO235 := Aside0.mk (Q_HO235 (hon 11 (by kernel_rfl)))
                have HA_HO235 := Aside0.mk (Q_HA_HO235 (hon 11 (by kernel_rfl)))
                have HI0 := Aside0.mk (Q_HI0_e17 (hon 17 (by kernel_rfl)))
                refine value_ (w1 := w') (v := .agg #[.bool true, .int .i64 t224, .int .i64 (rd y233 t236), .string t240]) (by rfl) rfl ?_ ?_
                · go_simp
                  (try simp only [i64_w])
                  try rfl
                refine hK.out _ _ ⟨v218, adz_v218, v234, adz_v234, m4_, m14_, (by rw [ha.out]; exact putSel_upk 12 hb_ rfl rfl rfl), Q_BK213, fun h0_ => absurd ((hon 3 (by kernel_rfl)).symm.trans h0_) (by decide), Q_HK, Q_HB, Q_HO219, Q_HA_HO219, fun _ h1_ => absurd ((hon 6 (by kernel_rfl)).symm.trans h1_) (by decide), fun _ h1_ => absurd ((hon 8 (by kernel_rfl)).symm.trans h1_) (by decide), fun _ h1_ => absurd ((hon 10 (by kernel_rfl)).symm.trans h1_) (by decide), fun _ h1_ => absurd ((hon 13 (by kernel_rfl)).symm.trans h1_) (by decide), Q_HO235, Q_HA_HO235, fun _ h1_ => absurd ((hon 17 (by kernel_rfl)).symm.trans h1_) (by decide), Q_HI0_e17, fun h0_ => absurd ((hoff 19 (by kernel_rfl)).symm.trans h0_) (by decide), Q_X4_, Q_X14_⟩
              refine steps_cons ?_ ?_
              · rintro b a w' ⟨v218, adz_v218, v234, adz_v234, m4_, m14_, ha, Q_BK213, Q_HI0, Q_HK, Q_HB, Q_HO219, Q_HA_HO219, Q_HI0_e3, Q_HI0_e6, Q_HI0_e8, Q_HI0_e10, Q_HO235, Q_HA_HO235, Q_HI0_e13, Q_HI0_e17, Q_BK213_e19, Q_X4_, Q_X14_⟩ hb_ hon hoff
                refine ⟨_, rfl, fun K hK => ?_⟩
                have e2 : a.tmps[2]? = some (.pointer (some ⟨gb213, 0, none⟩)) := by rw [ha]; exact (putSel_off rfl).trans rfl
                have e24 : a.tmps[24]? = some (.agg #[.bool true, .int .i64 t224, .int .i64 (rd y233 t236), .string t240]) := by rw [ha]; exact putSel_on (e := (18, 24, .agg #[.bool true, .int .i64 t224, .int .i64 (rd y233 t236), .string t240])) 12 rfl rfl (hon 18 (by kernel_rfl)) rfl
                replace ha := Aside0.mk ha
                have BK213 := Aside0.mk (Q_BK213 hb_)
                have HK := Aside0.mk Q_HK
                have HB := Aside0.mk Q_HB
                have HO219 := Aside0.mk (Q_HO219 (hon 1 (by kernel_rfl)))
                have HA_HO219 := Aside0.mk (Q_HA_HO219 (hon 1 (by kernel_rfl)))
                have HO235 := Aside0.mk (Q_HO235 (hon 11 (by kernel_rfl)))
                have HA_HO235 := Aside0.mk (Q_HA_HO235 (hon 11 (by kernel_rfl)))
                have HI0 := Aside0.mk (Q_HI0_e17 (hon 17 (by kernel_rfl)))
                obtain ⟨co34, eo34⟩ := HA_HO219.out
                clear HA_HO219
                subst eo34
                obtain ⟨co35, eo35⟩ := HA_HO235.out
                clear HA_HO235
                subst eo35
                have hs36 : w'.cell? ⟨gb213, 0, none⟩ = some (.bool false) := (blk_cell BK213.out 0).trans rfl
                have hfs36 := blk_frozen BK213.out 0
                have hs37 : w'.cell? ⟨gb213, 1, none⟩ = some (.int .i64 0) := (blk_cell BK213.out 1).trans rfl
                have hfs37 := blk_frozen BK213.out 1
                have hs38 : w'.cell? ⟨gb213, 2, none⟩ = some (.int .i64 0) := (blk_cell BK213.out 2).trans rfl
                have hfs38 := blk_frozen BK213.out 2
                have hs39 : w'.cell? ⟨gb213, 3, none⟩ = some (.string (⟨#[]⟩ : ByteArray)) := (blk_cell BK213.out 3).trans rfl
                have hfs39 := blk_frozen BK213.out 3
                refine skip_ (w1 := ?_) (by rfl) rfl ?_ ?_
                rotate_left
                · go_simp
                  rfl
                refine hK.out _ _ ⟨.slice (some adz_v218) y217.length co34, adz_v218, .slice (some adz_v234) y233.length co35, adz_v234, m4_, m14_, (by rw [ha.out]; exact putSel_none (v := undef) rfl), fun h0_ => absurd ((up_self b 19).symm.trans h0_) (by decide), fun h0_ => absurd ((hon 3 (by kernel_rfl)).symm.trans h0_) (by decide), (by repeat (first | (with_reducible first | exact HK.out | apply KeepBut.set_ | apply keep_drewN | apply keep_drew | apply keep_alloc | refine keep_far ?_ GW213.out _) | exact HK.out)), (by repeat (first | (with_reducible first | exact HB.out | apply below_alloc | apply pw_below_drewN | apply below_drew1 | refine below_set ?_ (IsS99.ge HI0.out) | refine below_set ?_ GE213.out) | exact HB.out)), fun _ => (by (with_reducible repeat (first | apply Kd.R_alloc | apply Kd.R_drewN | apply Kd.R_drew)); exact Kd.R_mono (Kd.R_far (p := ⟨gb213, 3, none⟩) (Kd.R_far (p := ⟨gb213, 2, none⟩) (Kd.R_far (p := ⟨gb213, 1, none⟩) (Kd.R_far (p := ⟨gb213, 0, none⟩) (Kd.R_types HO219.out BK213.out (by decide)) (fun _ hk => by first | exact hk.2 | trivial) (.bool true)) (fun _ hk => by first | exact hk.2 | trivial) (.int .i64 t224)) (fun _ hk => by first | exact hk.2 | trivial) (.int .i64 (rd y233 t236))) (fun _ hk => by first | exact hk.2 | trivial) (.string t240)) (fun _ hk => by first | exact hk.1 | trivial)), fun _ => ⟨_, rfl⟩, fun _ h1_ => absurd ((hon 6 (by kernel_rfl)).symm.trans h1_) (by decide), fun _ h1_ => absurd ((hon 8 (by kernel_rfl)).symm.trans h1_) (by decide), fun _ h1_ => absurd ((hon 10 (by kernel_rfl)).symm.trans h1_) (by decide), fun _ h1_ => absurd ((hon 13 (by kernel_rfl)).symm.trans h1_) (by decide), fun _ => (by (with_reducible repeat (first | apply Kd.R_alloc | apply Kd.R_drewN | apply Kd.R_drew)); exact Kd.R_mono (Kd.R_far (p := ⟨gb213, 3, none⟩) (Kd.R_far (p := ⟨gb213, 2, none⟩) (Kd.R_far (p := ⟨gb213, 1, none⟩) (Kd.R_far (p := ⟨gb213, 0, none⟩) (Kd.R_types HO235.out BK213.out (by decide)) (fun _ hk => by first | exact hk.2 | trivial) (.bool true)) (fun _ hk => by first | exact hk.2 | trivial) (.int .i64 t224)) (fun _ hk => by first | exact hk.2 | trivial) (.int .i64 (rd y233 t236))) (fun _ hk => by first | exact hk.2 | trivial) (.string t240)) (fun _ hk => by first | exact hk.1 | trivial)), fun _ => ⟨_, rfl⟩, fun _ h1_ => absurd ((hon 17 (by kernel_rfl)).symm.trans h1_) (by decide), fun _ => (by repeat (first | (with_reducible first | exact HI0.out | apply IsS99.alloc | apply IsS99.drewN | apply IsS99.drew | apply IsS99.set_1 | apply IsS99.set_2 | refine IsS99.far ?_ NB0_213.out _) | exact HI0.out)), fun _ => (by (with_reducible repeat (first | refine blk_drewN ?_ _ | refine blk_drew ?_ | refine blk_alloc ?_ _)); refine blk_put (cs := #[.bool true, .int .i64 t224, .int .i64 (rd y233 t236), .string (⟨#[]⟩ : ByteArray)]) ?_ 3 _ rfl; (with_reducible repeat (first | refine blk_drewN ?_ _ | refine blk_drew ?_ | refine blk_alloc ?_ _)); refine blk_put (cs := #[.bool true, .int .i64 t224, .int .i64 0, .string (⟨#[]⟩ : ByteArray)]) ?_ 2 _ rfl; (with_reducible repeat (first | refine blk_drewN ?_ _ | refine blk_drew ?_ | refine blk_alloc ?_ _)); refine blk_put (cs := #[.bool true, .int .i64 0, .int .i64 0, .string (⟨#[]⟩ : ByteArray)]) ?_ 1 _ rfl; (with_reducible repeat (first | refine blk_drewN ?_ _ | refine blk_drew ?_ | refine blk_alloc ?_ _)); refine blk_put (cs := #[.bool false, .int .i64 0, .int .i64 0, .string (⟨#[]⟩ : ByteArray)]) ?_ 0 _ rfl; (with_reducible repeat (first | refine blk_drewN ?_ _ | refine blk_drew ?_ | refine blk_alloc ?_ _)); exact BK213.out), Q_X4_, Q_X14_⟩
              exact steps_nil
            rintro b a w37 hall ⟨v218, adz_v218, v234, adz_v234, m4_, m14_, ha, Q_BK213, Q_HI0, Q_HK, Q_HB, Q_HO219, Q_HA_HO219, Q_HI0_e3, Q_HI0_e6, Q_HI0_e8, Q_HI0_e10, Q_HO235, Q_HA_HO235, Q_HI0_e13, Q_HI0_e17, Q_BK213_e19, Q_X4_, Q_X14_⟩
            clear BK213 HB HI0 HK
            have hb1_ := hall 1 (by kernel_rfl)
            have hb3_ := hall 3 (by kernel_rfl)
            have hb4_ := hall 4 (by kernel_rfl)
            have hb5_ := hall 5 (by kernel_rfl)
            have hb6_ := hall 6 (by kernel_rfl)
            have hb8_ := hall 8 (by kernel_rfl)
            have hb10_ := hall 10 (by kernel_rfl)
            have hb11_ := hall 11 (by kernel_rfl)
            have hb13_ := hall 13 (by kernel_rfl)
            have hb14_ := hall 14 (by kernel_rfl)
            have hb15_ := hall 15 (by kernel_rfl)
            have hb17_ := hall 17 (by kernel_rfl)
            have hb18_ := hall 18 (by kernel_rfl)
            have hb19_ := hall 19 (by kernel_rfl)
            subst ha
            obtain rfl := Q_X4_ hb4_
            obtain rfl := Q_X14_ hb14_
            simp only [putSel, hb1_, hb3_, hb4_, hb5_, hb6_, hb8_, hb10_, hb11_, hb13_, hb14_, hb15_, hb17_, hb18_, hb19_, if_true, Act.put, List.setIfInBounds_toArray, List.set_cons_zero, List.set_cons_succ]
            clear Q_BK213
            clear Q_HI0
            have HK := Aside0.mk Q_HK
            clear Q_HK
            have HB := Aside0.mk Q_HB
            clear Q_HB
            have HO219 := Aside0.mk (Q_HO219 hb1_)
            clear Q_HO219
            have HA_HO219 := Aside0.mk (Q_HA_HO219 hb1_)
            clear Q_HA_HO219
            clear Q_HI0_e3
            clear Q_HI0_e6
            clear Q_HI0_e8
            clear Q_HI0_e10
            have HO235 := Aside0.mk (Q_HO235 hb11_)
            clear Q_HO235
            have HA_HO235 := Aside0.mk (Q_HA_HO235 hb11_)
            clear Q_HA_HO235
            clear Q_HI0_e13
            have HI0 := Aside0.mk (Q_HI0_e17 hb17_)
            clear Q_HI0_e17
            have BK213 := Aside0.mk (Q_BK213_e19 hb19_)
            clear Q_BK213_e19
            clear hall hb1_ hb3_ hb4_ hb5_ hb6_ hb8_ hb10_ hb11_ hb13_ hb14_ hb15_ hb17_ hb18_ hb19_
            obtain ⟨co38, eo38⟩ := HA_HO219.out
            clear HA_HO219
            subst eo38
            obtain ⟨co39, eo39⟩ := HA_HO235.out
            clear HA_HO235
            subst eo39
            try go_wp2
            refine bodyPost_ret (results_cell_row rfl _ _ gb213 26 #[.bool true, .int .i64 t224, .int .i64 (rd y233 t236), .string t240] (0, 0) _ rfl (by (with_reducible repeat (first | refine blk_drewN ?_ _ | refine blk_drew ?_ | refine blk_alloc ?_ _)); exact BK213.out) Try.underlying26 rfl (by kernel_rfl)) rfl ?_
            exact ⟨by first | rfl | (simp [errW_none, errW_some] <;> rfl) | (simp [*, errW_none, errW_some] <;> rfl), by repeat (first | (with_reducible first | exact HI0.out | apply IsS99.alloc | apply IsS99.drewN | apply IsS99.drew | apply IsS99.set_1 | apply IsS99.set_2 | refine IsS99.far ?_ NB0_213.out _) | exact HI0.out), by repeat (first | (with_reducible first | exact HB.out | apply below_alloc | apply pw_below_drewN | apply below_drew1 | refine below_set ?_ (IsS99.ge HI0.out) | refine below_set ?_ GE213.out) | exact HB.out), by repeat (first | (with_reducible first | exact HK.out | apply KeepBut.set_ | apply keep_drewN | apply keep_drew | apply keep_alloc | refine keep_far ?_ GW213.out _) | exact HK.out)⟩
          · rw [if_neg c16] at H
            exact absurd H (by simp)
        · rw [if_neg c15] at H
          exact absurd H (by simp)
      · rw [if_neg c10] at H
        exact absurd H (by simp)
    · rw [if_neg c9] at H
      exact absurd H (by simp)

end Go.Proofs.Ytmhikpfaoacgpaa.PFnRecBack

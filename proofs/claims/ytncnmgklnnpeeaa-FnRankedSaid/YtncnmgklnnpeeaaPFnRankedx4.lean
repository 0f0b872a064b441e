-- Laid by a program of this session: what the print of the kit writes, and contracts of the session where the print takes no function. Lean checks it.
import Derived.Test.YtncnmgklnnpeeaaPFnRankedx0
import Derived.Test.YtncnmgklnnpeeaaPFnRankedx3
namespace Go.Proofs.Ytncnmgklnnpeeaa.PFnRanked
open Go.RowKit Go.Proofs.YtncnmgklnnpeeaaW.PrintWords Go.Proofs.YtncnmgklnnpeeaaW.PrintLast Go.Proofs.YtncnmgklnnpeeaaW.PrintMore
attribute [local go_sem] max2_int min2_int max_two min_two max_three min_three max_four min_four   -- for this text's walks alone
set_option linter.unusedVariables false
set_option linter.unusedSimpArgs false

/-! ### spec_l01Cur_rec: function 44 -/
def spec_l01Cur_rec.f (k : Nat) (s0_0 : List Int) (s0_1 : Int) (s0_2 : Int) : Option (Bool × Int × Int × ByteArray × Int × Int) := (spec_l01Cur_once.f s0_0 s0_1 s0_2 5).bind fun bt168 => (if bt168.1 = true then (some (false, 0, 0, (⟨#[]⟩ : ByteArray), bt168.2.1, bt168.2.2)) else ((some (([3, 8] : List Int) : List Int)).bind fun y171 => ((spec_l01Cur_pick.f s0_0 bt168.2.1 bt168.2.2 2).bind fun bt174 => (if 0 ≤ bt174.1 then (if bt174.1 < (y171.length : Int) then ((spec_l01Cur_pick.f s0_0 bt174.2.1 bt174.2.2 (rd y171 bt174.1)).bind fun bt178 => ((spec_l01Cur_pick.f s0_0 bt178.2.1 bt178.2.2 3).bind fun bt181 => ((spec_l01Cur_wide.f s0_0 bt181.2.1 bt181.2.2 65536).bind fun bt184 => ((some (([bt181.1, bt184.1, 65535] : List Int) : List Int)).bind fun y187 => ((spec_l01Cur_pick.f s0_0 bt184.2.1 bt184.2.2 3).bind fun bt190 => (if 0 ≤ bt190.1 then (if bt190.1 < (y187.length : Int) then ((spec_l01Cur_word.f k s0_0 bt190.2.1 bt190.2.2).bind fun bt194 => (some (true, bt178.1, rd y187 bt190.1, bt194.1, bt194.2.1, bt194.2.2))) else (none)) else (none))))))) else (none)) else (none)))))
theorem spec_l01Cur_rec.mono : ∀ a0 a1 a2 k, LeO (spec_l01Cur_rec.f k a0 a1 a2) (spec_l01Cur_rec.f (k + 1) a0 a1 a2) := by
  intro a0 a1 a2 k
  unfold spec_l01Cur_rec.f
  repeat' first
      | (with_reducible exact spec_l01Cur_word.mono _ _ _ _)
      | (with_reducible exact LeO.refl _)
      | (with_reducible exact LeO.none _)
      | (with_reducible refine LeO.ite ?_ ?_)
      | (with_reducible refine LeO.bind ?_ (fun _ => ?_))
      | exact spec_l01Cur_word.mono _ _ _ _
      | exact LeO.none _
      | refine LeO.ite ?_ ?_
      | refine LeO.bind ?_ (fun _ => ?_)
def spec_l01Cur_rec.T3 : Bool × List (List Nat × List Nat) := (true, [([], []), ([], []), ([], []), ([2], [2]), ([1, 3], [1, 3]), ([4], [4]), ([0, 5, 3], [0, 5]), ([], []), ([7, 6], [7]), ([], []), ([9, 8], [9]), ([8, 10], [8, 10]), ([], []), ([12, 10], [12]), ([11, 13], [11, 13]), ([14], [14]), ([], []), ([16, 13], [16]), ([6, 15, 17], [6, 15, 17]), ([18, 17, 0, 1, 2, 3, 4, 5, 6, 7, 8, 9, 10, 11, 12, 13, 14, 15, 16, 17, 18], [18])])
def spec_l01Cur_rec.B3 : List Nat := [0, 0, 0, 4, 14, 30, 63, 0, 255, 0, 1023, 2047, 0, 6143, 16383, 32767, 0, 79871, 262143, 524287]
theorem spec_l01Cur_rec.tab3 : rtab .any (opsOf Try.f44 3) = spec_l01Cur_rec.T3 := by kernel_rfl
theorem spec_l01Cur_rec.bits3 : waitsOk spec_l01Cur_rec.T3.2 spec_l01Cur_rec.B3 = true := by kernel_rfl
set_option maxHeartbeats 8000000 in
set_option maxRecDepth 100000 in
theorem spec_l01Cur_rec.calls (k : Nat) (g : Nat) (s0_0 : List Int) (s0_1 : Int) (s0_2 : Int) (r1 : Bool) (r2 : Int) (r3 : Int) (r4 : ByteArray) (r5 : Int) (r6 : Int) (w0 w : World) (hI : IsS60 w0 w g s0_0 s0_1 s0_2) (hB : Below w0.heap.size w0 w) (h : spec_l01Cur_rec.f k s0_0 s0_1 s0_2 = some (r1, r2, r3, r4, r5, r6)) :
    Calls Try.prog 44 #[.pointer (some ⟨g, 0, none⟩)] w fun e w' => e = .returned (.agg #[.bool r1, .int .i64 r2, .int .i64 r3, .string r4]) ∧ IsS60 w0 w' g s0_0 r5 r6 ∧ Below w0.heap.size w0 w' ∧ KeepBut w w' g none := by
  have hu25 := Try.underlying25
  have HI0 := Aside0.mk hI
  have HK := Aside0.mk (KeepBut.refl w g none)
  have HL := Aside0.mk hB.size
  clear hI
  have HW0 := Aside0.mk hB.size
  have HB := Aside0.mk hB
  clear hB
  have H : ((spec_l01Cur_once.f s0_0 s0_1 s0_2 5).bind fun bt168 => (if bt168.1 = true then (some (false, 0, 0, (⟨#[]⟩ : ByteArray), bt168.2.1, bt168.2.2)) else ((some (([3, 8] : List Int) : List Int)).bind fun y171 => ((spec_l01Cur_pick.f s0_0 bt168.2.1 bt168.2.2 2).bind fun bt174 => (if 0 ≤ bt174.1 then (if bt174.1 < (y171.length : Int) then ((spec_l01Cur_pick.f s0_0 bt174.2.1 bt174.2.2 (rd y171 bt174.1)).bind fun bt178 => ((spec_l01Cur_pick.f s0_0 bt178.2.1 bt178.2.2 3).bind fun bt181 => ((spec_l01Cur_wide.f s0_0 bt181.2.1 bt181.2.2 65536).bind fun bt184 => ((some (([bt181.1, bt184.1, 65535] : List Int) : List Int)).bind fun y187 => ((spec_l01Cur_pick.f s0_0 bt184.2.1 bt184.2.2 3).bind fun bt190 => (if 0 ≤ bt190.1 then (if bt190.1 < (y187.length : Int) then ((spec_l01Cur_word.f k s0_0 bt190.2.1 bt190.2.2).bind fun bt194 => (some (true, bt178.1, rd y187 bt190.1, bt194.1, bt194.2.1, bt194.2.2))) else (none)) else (none))))))) else (none)) else (none)))))) = some (r1, r2, r3, r4, r5, r6) := h
  clear h
  replace H := Option.bind_eq_some_iff.mp H
  obtain ⟨⟨t168, t169, t170⟩, A20, H⟩ := H
  replace H : (if t168 = true then (some (false, 0, 0, (⟨#[]⟩ : ByteArray), t169, t170)) else ((some (([3, 8] : List Int) : List Int)).bind fun y171 => ((spec_l01Cur_pick.f s0_0 t169 t170 2).bind fun bt174 => (if 0 ≤ bt174.1 then (if bt174.1 < (y171.length : Int) then ((spec_l01Cur_pick.f s0_0 bt174.2.1 bt174.2.2 (rd y171 bt174.1)).bind fun bt178 => ((spec_l01Cur_pick.f s0_0 bt178.2.1 bt178.2.2 3).bind fun bt181 => ((spec_l01Cur_wide.f s0_0 bt181.2.1 bt181.2.2 65536).bind fun bt184 => ((some (([bt181.1, bt184.1, 65535] : List Int) : List Int)).bind fun y187 => ((spec_l01Cur_pick.f s0_0 bt184.2.1 bt184.2.2 3).bind fun bt190 => (if 0 ≤ bt190.1 then (if bt190.1 < (y187.length : Int) then ((spec_l01Cur_word.f k s0_0 bt190.2.1 bt190.2.2).bind fun bt194 => (some (true, bt178.1, rd y187 bt190.1, bt194.1, bt194.2.1, bt194.2.2))) else (none)) else (none))))))) else (none)) else (none))))) = some (r1, r2, r3, r4, r5, r6) := H
  have A2 := Aside0.mk A20
  clear A20
  by_cases c3 : t168 = true
  · subst c3
    have H1 : (some (false, 0, 0, (⟨#[]⟩ : ByteArray), t169, t170)) = some (r1, r2, r3, r4, r5, r6) := by rw [if_pos rfl] at H; exact H
    clear H
    have H := H1
    clear H1
    simp only [Option.some.injEq, Prod.mk.injEq] at H
    obtain ⟨rfl, rfl, rfl, rfl, rfl, rfl⟩ := H
    go_enter Try.func44, Try.ntmps44
    go_wp2_with (first | ((with_reducible refine gate_dst (N := 2) rfl ?_); refine box_event ?hg (N := 2) ?hd (cs := #[.bool false, .int .i64 0, .int .i64 0, .string (⟨#[]⟩ : ByteArray)]) (t := 25) ?hr ?_; (case hd => rfl); (case hg => rfl); (case hr => first | (go_simp; done) | (go_simp; rfl)); intro gb167 hg w4 hbox hb; have n0_ := Aside0.mk (IsS60.below (by repeat (first | (with_reducible first | exact HI0.out | apply IsS60.alloc | apply IsS60.drewN | apply IsS60.drew | apply IsS60.set_1 | apply IsS60.set_2) | exact HI0.out)) hb); have n1_ := Aside0.mk (KeepBut.trans (by repeat (first | (with_reducible first | exact HK.out | apply KeepBut.set_ | apply keep_drewN | apply keep_drew | apply keep_alloc) | exact HK.out)) (KeepBut.of_below hb g none) (.inl rfl)); have n2_ := Aside0.mk (below_step (by repeat (first | (with_reducible first | exact HB.out | apply below_alloc | apply pw_below_drewN | apply below_drew1 | refine below_set ?_ (IsS60.ge HI0.out)) | exact HB.out)) hb); have n3_ := Aside0.mk (hbox); have n4_ := Aside0.mk ((by rw [hg]; exact (keep_size (w := w) (g := g) (row := none) (by repeat (first | (with_reducible first | exact HK.out | apply KeepBut.set_ | apply keep_drewN | apply keep_drew | apply keep_alloc) | exact HK.out))) : w.heap.size ≤ gb167)); have n5_ := Aside0.mk ((Nat.le_trans HW0.out (by rw [hg]; exact (keep_size (w := w) (g := g) (row := none) (by repeat (first | (with_reducible first | exact HK.out | apply KeepBut.set_ | apply keep_drewN | apply keep_drew | apply keep_alloc) | exact HK.out))) : w.heap.size ≤ gb167) : w0.heap.size ≤ gb167)); have n6_ := Aside0.mk ((by rw [hg]; exact Nat.ne_of_lt (IsS60.lt (show IsS60 w0 _ g s0_0 s0_1 s0_2 from by repeat (first | (with_reducible first | exact HI0.out | apply IsS60.alloc | apply IsS60.drewN | apply IsS60.drew | apply IsS60.set_1 | apply IsS60.set_2) | exact HI0.out))) : g ≠ gb167)); have n7_ := Aside0.mk ((by rw [hg]; exact Nat.ne_of_gt (IsS60.lt (show IsS60 w0 _ g s0_0 s0_1 s0_2 from by repeat (first | (with_reducible first | exact HI0.out | apply IsS60.alloc | apply IsS60.drewN | apply IsS60.drew | apply IsS60.set_1 | apply IsS60.set_2) | exact HI0.out))) : gb167 ≠ g)); clear HI0; clear HK; clear HB; have HI0 := n0_; have HK := n1_; have HB := n2_; have BK167 := n3_; have GW167 := n4_; have GE167 := n5_; have NB0_167 := n6_; have NB167_0 := n7_; clear n0_ n1_ n2_ n3_ n4_ n5_ n6_ n7_; clear hb hbox hg) | ((with_reducible refine gate_callee (f := 27) rfl ?_); refine goesL_ (some 4) rfl rfl Try.func27 (by kernel_rfl) rfl #[.pointer (some ⟨g, 0, none⟩), .int .i64 5] rfl (by (try simp only [List.map_toArray, List.map_cons, List.map_nil]); first | done | rfl | (simp only [List.length_drop, List.length_take]; rfl)) ?_; (with_reducible refine (spec_l01Cur_once.calls g s0_0 s0_1 s0_2 5 true t169 t170 w0 _ ?side1 ?side2 A2.out).mono ?_); (case side1 => repeat (first | (with_reducible first | exact HI0.out | apply IsS60.alloc | apply IsS60.drewN | apply IsS60.drew | apply IsS60.set_1 | apply IsS60.set_2 | refine IsS60.far ?_ NB0_167.out _) | exact HI0.out)); (case side2 => repeat (first | (with_reducible first | exact HB.out | apply below_alloc | apply pw_below_drewN | apply below_drew1 | refine below_set ?_ (IsS60.ge HI0.out) | refine below_set ?_ GE167.out) | exact HB.out)); rintro e w5 ⟨rfl, hi, hb, hk⟩; refine ⟨_, rfl, ?_⟩; have n0_ := Aside0.mk (KeepBut.blk hk (g' := gb167) (o := .cells #[.bool false, .int .i64 0, .int .i64 0, .string (⟨#[]⟩ : ByteArray)] 25 (0, 0)) (by (with_reducible repeat (first | refine blk_drewN ?_ _ | refine blk_drew ?_ | refine blk_alloc ?_ _)); exact BK167.out) NB167_0.out (by simp)); have n1_ := Aside0.mk (KeepBut.trans (by repeat (first | (with_reducible first | exact HK.out | apply KeepBut.set_ | apply keep_drewN | apply keep_drew | apply keep_alloc | refine keep_far ?_ GW167.out _) | exact HK.out)) hk (.inl rfl)); have n2_ := Aside0.mk (hb); have n3_ := Aside0.mk (hi); clear BK167; clear HK; clear HB; clear HI0; have BK167 := n0_; have HK := n1_; have HB := n2_; have HI0 := n3_; clear n0_ n1_ n2_ n3_; (try clear hb); (try clear hb2); (try clear hk); (try clear hi); have hnb6 := NB167_0.out; have hnc6 := NB0_167.out; have hcz7_0 : w5.cell? ⟨gb167, 0, none⟩ = some (.bool false) := (blk_cell BK167.out 0).trans rfl; have hcz7_1 : w5.cell? ⟨gb167, 1, none⟩ = some (.int .i64 0) := (blk_cell BK167.out 1).trans rfl; have hcz7_2 : w5.cell? ⟨gb167, 2, none⟩ = some (.int .i64 0) := (blk_cell BK167.out 2).trans rfl; have hcz7_3 : w5.cell? ⟨gb167, 3, none⟩ = some (.string (⟨#[]⟩ : ByteArray)) := (blk_cell BK167.out 3).trans rfl; have hfz7_0 := blk_frozen BK167.out 0; have hfz7_1 := blk_frozen BK167.out 1; have hfz7_2 := blk_frozen BK167.out 2; have hfz7_3 := blk_frozen BK167.out 3))
    refine bodyPost_ret (results_cell_row rfl _ _ gb167 25 #[.bool false, .int .i64 0, .int .i64 0, .string (⟨#[]⟩ : ByteArray)] (0, 0) _ rfl (by (with_reducible repeat (first | refine blk_drewN ?_ _ | refine blk_drew ?_ | refine blk_alloc ?_ _)); refine blk_put (cs := #[.bool false, .int .i64 0, .int .i64 0, .string (⟨#[]⟩ : ByteArray)]) ?_ 3 _ rfl; (with_reducible repeat (first | refine blk_drewN ?_ _ | refine blk_drew ?_ | refine blk_alloc ?_ _)); refine blk_put (cs := #[.bool false, .int .i64 0, .int .i64 0, .string (⟨#[]⟩ : ByteArray)]) ?_ 2 _ rfl; (with_reducible repeat (first | refine blk_drewN ?_ _ | refine blk_drew ?_ | refine blk_alloc ?_ _)); refine blk_put (cs := #[.bool false, .int .i64 0, .int .i64 0, .string (⟨#[]⟩ : ByteArray)]) ?_ 1 _ rfl; (with_reducible repeat (first | refine blk_drewN ?_ _ | refine blk_drew ?_ | refine blk_alloc ?_ _)); refine blk_put (cs := #[.bool false, .int .i64 0, .int .i64 0, .string (⟨#[]⟩ : ByteArray)]) ?_ 0 _ rfl; (with_reducible repeat (first | refine blk_drewN ?_ _ | refine blk_drew ?_ | refine blk_alloc ?_ _)); exact BK167.out) Try.underlying25 rfl (by kernel_rfl)) rfl ?_
    exact ⟨by first | rfl | (simp [errW_none, errW_some] <;> rfl) | (simp [*, errW_none, errW_some] <;> rfl), by repeat (first | (with_reducible first | exact HI0.out | apply IsS60.alloc | apply IsS60.drewN | apply IsS60.drew | apply IsS60.set_1 | apply IsS60.set_2 | refine IsS60.far ?_ NB0_167.out _) | exact HI0.out), by repeat (first | (with_reducible first | exact HB.out | apply below_alloc | apply pw_below_drewN | apply below_drew1 | refine below_set ?_ (IsS60.ge HI0.out) | refine below_set ?_ GE167.out) | exact HB.out), by repeat (first | (with_reducible first | exact HK.out | apply KeepBut.set_ | apply keep_drewN | apply keep_drew | apply keep_alloc | refine keep_far ?_ GW167.out _) | exact HK.out)⟩
  · replace c3 := Bool.eq_false_iff.mpr c3
    subst c3
    have H1 : ((some (([3, 8] : List Int) : List Int)).bind fun y171 => ((spec_l01Cur_pick.f s0_0 t169 t170 2).bind fun bt174 => (if 0 ≤ bt174.1 then (if bt174.1 < (y171.length : Int) then ((spec_l01Cur_pick.f s0_0 bt174.2.1 bt174.2.2 (rd y171 bt174.1)).bind fun bt178 => ((spec_l01Cur_pick.f s0_0 bt178.2.1 bt178.2.2 3).bind fun bt181 => ((spec_l01Cur_wide.f s0_0 bt181.2.1 bt181.2.2 65536).bind fun bt184 => ((some (([bt181.1, bt184.1, 65535] : List Int) : List Int)).bind fun y187 => ((spec_l01Cur_pick.f s0_0 bt184.2.1 bt184.2.2 3).bind fun bt190 => (if 0 ≤ bt190.1 then (if bt190.1 < (y187.length : Int) then ((spec_l01Cur_word.f k s0_0 bt190.2.1 bt190.2.2).bind fun bt194 => (some (true, bt178.1, rd y187 bt190.1, bt194.1, bt194.2.1, bt194.2.2))) else (none)) else (none))))))) else (none)) else (none)))) = some (r1, r2, r3, r4, r5, r6) := by rw [if_neg (show ¬ (false = true) by decide)] at H; exact H
    clear H
    have H := H1
    clear H1
    obtain ⟨y171, hy171⟩ : ∃ y_ : List Int, y_ = (([3, 8] : List Int)) := ⟨_, rfl⟩
    replace H : ((spec_l01Cur_pick.f s0_0 t169 t170 2).bind fun bt174 => (if 0 ≤ bt174.1 then (if bt174.1 < (y171.length : Int) then ((spec_l01Cur_pick.f s0_0 bt174.2.1 bt174.2.2 (rd y171 bt174.1)).bind fun bt178 => ((spec_l01Cur_pick.f s0_0 bt178.2.1 bt178.2.2 3).bind fun bt181 => ((spec_l01Cur_wide.f s0_0 bt181.2.1 bt181.2.2 65536).bind fun bt184 => ((some (([bt181.1, bt184.1, 65535] : List Int) : List Int)).bind fun y187 => ((spec_l01Cur_pick.f s0_0 bt184.2.1 bt184.2.2 3).bind fun bt190 => (if 0 ≤ bt190.1 then (if bt190.1 < (y187.length : Int) then ((spec_l01Cur_word.f k s0_0 bt190.2.1 bt190.2.2).bind fun bt194 => (some (true, bt178.1, rd y187 bt190.1, bt194.1, bt194.2.1, bt194.2.2))) else (none)) else (none))))))) else (none)) else (none))) = some (r1, r2, r3, r4, r5, r6) := by first | (rw [hy171]; with_reducible exact H) | (have H2_ := (Option.bind_some _ _).symm.trans H; rw [hy171]; with_reducible exact H2_) | (have H2_ := (Option.bind_some _ _).symm.trans H; with_reducible exact H2_) | with_reducible exact H | (rw [hy171]; exact H) | exact H
    have Ny171 := Aside0.mk hy171
    clear hy171
    replace H := Option.bind_eq_some_iff.mp H
    obtain ⟨⟨t174, t175, t176⟩, A80, H⟩ := H
    replace H : (if 0 ≤ t174 then (if t174 < (y171.length : Int) then ((spec_l01Cur_pick.f s0_0 t175 t176 (rd y171 t174)).bind fun bt178 => ((spec_l01Cur_pick.f s0_0 bt178.2.1 bt178.2.2 3).bind fun bt181 => ((spec_l01Cur_wide.f s0_0 bt181.2.1 bt181.2.2 65536).bind fun bt184 => ((some (([bt181.1, bt184.1, 65535] : List Int) : List Int)).bind fun y187 => ((spec_l01Cur_pick.f s0_0 bt184.2.1 bt184.2.2 3).bind fun bt190 => (if 0 ≤ bt190.1 then (if bt190.1 < (y187.length : Int) then ((spec_l01Cur_word.f k s0_0 bt190.2.1 bt190.2.2).bind fun bt194 => (some (true, bt178.1, rd y187 bt190.1, bt194.1, bt194.2.1, bt194.2.2))) else (none)) else (none))))))) else (none)) else (none)) = some (r1, r2, r3, r4, r5, r6) := H
    have A8 := Aside0.mk A80
    clear A80
    by_cases c9 : 0 ≤ t174
    · rw [if_pos c9] at H
      have c9b0 : decide (0 ≤ t174) = true := decide_eq_true c9
      clear c9
      by_cases c10 : t174 < (y171.length : Int)
      · rw [if_pos c10] at H
        have c10b0 : decide (t174 < (y171.length : Int)) = true := decide_eq_true c10
        clear c10
        replace H := Option.bind_eq_some_iff.mp H
        obtain ⟨⟨t178, t179, t180⟩, A110, H⟩ := H
        replace H : ((spec_l01Cur_pick.f s0_0 t179 t180 3).bind fun bt181 => ((spec_l01Cur_wide.f s0_0 bt181.2.1 bt181.2.2 65536).bind fun bt184 => ((some (([bt181.1, bt184.1, 65535] : List Int) : List Int)).bind fun y187 => ((spec_l01Cur_pick.f s0_0 bt184.2.1 bt184.2.2 3).bind fun bt190 => (if 0 ≤ bt190.1 then (if bt190.1 < (y187.length : Int) then ((spec_l01Cur_word.f k s0_0 bt190.2.1 bt190.2.2).bind fun bt194 => (some (true, t178, rd y187 bt190.1, bt194.1, bt194.2.1, bt194.2.2))) else (none)) else (none)))))) = some (r1, r2, r3, r4, r5, r6) := H
        have A11 := Aside0.mk A110
        clear A110
        replace H := Option.bind_eq_some_iff.mp H
        obtain ⟨⟨t181, t182, t183⟩, A120, H⟩ := H
        replace H : ((spec_l01Cur_wide.f s0_0 t182 t183 65536).bind fun bt184 => ((some (([t181, bt184.1, 65535] : List Int) : List Int)).bind fun y187 => ((spec_l01Cur_pick.f s0_0 bt184.2.1 bt184.2.2 3).bind fun bt190 => (if 0 ≤ bt190.1 then (if bt190.1 < (y187.length : Int) then ((spec_l01Cur_word.f k s0_0 bt190.2.1 bt190.2.2).bind fun bt194 => (some (true, t178, rd y187 bt190.1, bt194.1, bt194.2.1, bt194.2.2))) else (none)) else (none))))) = some (r1, r2, r3, r4, r5, r6) := H
        have A12 := Aside0.mk A120
        clear A120
        replace H := Option.bind_eq_some_iff.mp H
        obtain ⟨⟨t184, t185, t186⟩, A130, H⟩ := H
        replace H : ((some (([t181, t184, 65535] : List Int) : List Int)).bind fun y187 => ((spec_l01Cur_pick.f s0_0 t185 t186 3).bind fun bt190 => (if 0 ≤ bt190.1 then (if bt190.1 < (y187.length : Int) then ((spec_l01Cur_word.f k s0_0 bt190.2.1 bt190.2.2).bind fun bt194 => (some (true, t178, rd y187 bt190.1, bt194.1, bt194.2.1, bt194.2.2))) else (none)) else (none)))) = some (r1, r2, r3, r4, r5, r6) := H
        have A13 := Aside0.mk A130
        clear A130
        obtain ⟨y187, hy187⟩ : ∃ y_ : List Int, y_ = (([t181, t184, 65535] : List Int)) := ⟨_, rfl⟩
        replace H : ((spec_l01Cur_pick.f s0_0 t185 t186 3).bind fun bt190 => (if 0 ≤ bt190.1 then (if bt190.1 < (y187.length : Int) then ((spec_l01Cur_word.f k s0_0 bt190.2.1 bt190.2.2).bind fun bt194 => (some (true, t178, rd y187 bt190.1, bt194.1, bt194.2.1, bt194.2.2))) else (none)) else (none))) = some (r1, r2, r3, r4, r5, r6) := by first | (rw [hy187]; with_reducible exact H) | (have H2_ := (Option.bind_some _ _).symm.trans H; rw [hy187]; with_reducible exact H2_) | (have H2_ := (Option.bind_some _ _).symm.trans H; with_reducible exact H2_) | with_reducible exact H | (rw [hy187]; exact H) | exact H
        have Ny187 := Aside0.mk hy187
        clear hy187
        replace H := Option.bind_eq_some_iff.mp H
        obtain ⟨⟨t190, t191, t192⟩, A140, H⟩ := H
        replace H : (if 0 ≤ t190 then (if t190 < (y187.length : Int) then ((spec_l01Cur_word.f k s0_0 t191 t192).bind fun bt194 => (some (true, t178, rd y187 t190, bt194.1, bt194.2.1, bt194.2.2))) else (none)) else (none)) = some (r1, r2, r3, r4, r5, r6) := H
        have A14 := Aside0.mk A140
        clear A140
        by_cases c15 : 0 ≤ t190
        · rw [if_pos c15] at H
          have c15b0 : decide (0 ≤ t190) = true := decide_eq_true c15
          clear c15
          by_cases c16 : t190 < (y187.length : Int)
          · rw [if_pos c16] at H
            have c16b0 : decide (t190 < (y187.length : Int)) = true := decide_eq_true c16
            clear c16
            replace H := Option.bind_eq_some_iff.mp H
            obtain ⟨⟨t194, t195, t196⟩, A170, H⟩ := H
            replace H : (some (true, t178, rd y187 t190, t194, t195, t196)) = some (r1, r2, r3, r4, r5, r6) := H
            have A17 := Aside0.mk A170
            clear A170
            simp only [Option.some.injEq, Prod.mk.injEq] at H
            obtain ⟨rfl, rfl, rfl, rfl, rfl, rfl⟩ := H
            go_enter Try.func44, Try.ntmps44
            try go_wp2_with (first | ((with_reducible refine gate_dst (N := 2) rfl ?_); refine box_event ?hg (N := 2) ?hd (cs := #[.bool false, .int .i64 0, .int .i64 0, .string (⟨#[]⟩ : ByteArray)]) (t := 25) ?hr ?_; (case hd => rfl); (case hg => rfl); (case hr => first | (go_simp; done) | (go_simp; rfl)); intro gb167 hg w18 hbox hb; have n0_ := Aside0.mk (IsS60.below (by repeat (first | (with_reducible first | exact HI0.out | apply IsS60.alloc | apply IsS60.drewN | apply IsS60.drew | apply IsS60.set_1 | apply IsS60.set_2) | exact HI0.out)) hb); have n1_ := Aside0.mk (KeepBut.trans (by repeat (first | (with_reducible first | exact HK.out | apply KeepBut.set_ | apply keep_drewN | apply keep_drew | apply keep_alloc) | exact HK.out)) (KeepBut.of_below hb g none) (.inl rfl)); have n2_ := Aside0.mk (below_step (by repeat (first | (with_reducible first | exact HB.out | apply below_alloc | apply pw_below_drewN | apply below_drew1 | refine below_set ?_ (IsS60.ge HI0.out)) | exact HB.out)) hb); have n3_ := Aside0.mk (hbox); have n4_ := Aside0.mk ((by rw [hg]; exact (keep_size (w := w) (g := g) (row := none) (by repeat (first | (with_reducible first | exact HK.out | apply KeepBut.set_ | apply keep_drewN | apply keep_drew | apply keep_alloc) | exact HK.out))) : w.heap.size ≤ gb167)); have n5_ := Aside0.mk ((Nat.le_trans HW0.out (by rw [hg]; exact (keep_size (w := w) (g := g) (row := none) (by repeat (first | (with_reducible first | exact HK.out | apply KeepBut.set_ | apply keep_drewN | apply keep_drew | apply keep_alloc) | exact HK.out))) : w.heap.size ≤ gb167) : w0.heap.size ≤ gb167)); have n6_ := Aside0.mk ((by rw [hg]; exact Nat.ne_of_lt (IsS60.lt (show IsS60 w0 _ g s0_0 s0_1 s0_2 from by repeat (first | (with_reducible first | exact HI0.out | apply IsS60.alloc | apply IsS60.drewN | apply IsS60.drew | apply IsS60.set_1 | apply IsS60.set_2) | exact HI0.out))) : g ≠ gb167)); have n7_ := Aside0.mk ((by rw [hg]; exact Nat.ne_of_gt (IsS60.lt (show IsS60 w0 _ g s0_0 s0_1 s0_2 from by repeat (first | (with_reducible first | exact HI0.out | apply IsS60.alloc | apply IsS60.drewN | apply IsS60.drew | apply IsS60.set_1 | apply IsS60.set_2) | exact HI0.out))) : gb167 ≠ g)); clear HI0; clear HK; clear HB; have HI0 := n0_; have HK := n1_; have HB := n2_; have BK167 := n3_; have GW167 := n4_; have GE167 := n5_; have NB0_167 := n6_; have NB167_0 := n7_; clear n0_ n1_ n2_ n3_ n4_ n5_ n6_ n7_; clear hb hbox hg) | ((with_reducible refine gate_callee (f := 27) rfl ?_); refine goesL_ (some 4) rfl rfl Try.func27 (by kernel_rfl) rfl #[.pointer (some ⟨g, 0, none⟩), .int .i64 5] rfl (by (try simp only [List.map_toArray, List.map_cons, List.map_nil]); first | done | rfl | (simp only [List.length_drop, List.length_take]; rfl)) ?_; (with_reducible refine (spec_l01Cur_once.calls g s0_0 s0_1 s0_2 5 false t169 t170 w0 _ ?side1 ?side2 A2.out).mono ?_); (case side1 => repeat (first | (with_reducible first | exact HI0.out | apply IsS60.alloc | apply IsS60.drewN | apply IsS60.drew | apply IsS60.set_1 | apply IsS60.set_2 | refine IsS60.far ?_ NB0_167.out _) | exact HI0.out)); (case side2 => repeat (first | (with_reducible first | exact HB.out | apply below_alloc | apply pw_below_drewN | apply below_drew1 | refine below_set ?_ (IsS60.ge HI0.out) | refine below_set ?_ GE167.out) | exact HB.out)); rintro e w19 ⟨rfl, hi, hb, hk⟩; refine ⟨_, rfl, ?_⟩; have n0_ := Aside0.mk (KeepBut.blk hk (g' := gb167) (o := .cells #[.bool false, .int .i64 0, .int .i64 0, .string (⟨#[]⟩ : ByteArray)] 25 (0, 0)) (by (with_reducible repeat (first | refine blk_drewN ?_ _ | refine blk_drew ?_ | refine blk_alloc ?_ _)); exact BK167.out) NB167_0.out (by simp)); have n1_ := Aside0.mk (KeepBut.trans (by repeat (first | (with_reducible first | exact HK.out | apply KeepBut.set_ | apply keep_drewN | apply keep_drew | apply keep_alloc | refine keep_far ?_ GW167.out _) | exact HK.out)) hk (.inl rfl)); have n2_ := Aside0.mk (hb); have n3_ := Aside0.mk (hi); clear BK167; clear HK; clear HB; clear HI0; have BK167 := n0_; have HK := n1_; have HB := n2_; have HI0 := n3_; clear n0_ n1_ n2_ n3_; (try clear hb); (try clear hb2); (try clear hk); (try clear hi)))
            have pi177 : (0 ≤ (t174 : Int)) = True := eq_true (of_decide_eq_true (by first | (with_reducible assumption) | assumption))
            have qi177 : (t174 < (y171.length : Int)) = True := eq_true (of_decide_eq_true (by first | (with_reducible assumption) | assumption))
            have pi193 : (0 ≤ (t190 : Int)) = True := eq_true (of_decide_eq_true (by first | (with_reducible assumption) | assumption))
            have qi193 : (t190 < (y187.length : Int)) = True := eq_true (of_decide_eq_true (by first | (with_reducible assumption) | assumption))
            have n0_ := Aside0.mk (blk_drew BK167.out)
            have n1_ := Aside0.mk (IsS60.drew HI0.out)
            have n2_ := Aside0.mk (keep_drew HK.out)
            have n3_ := Aside0.mk (below_drew1 HB.out)
            clear BK167
            clear HI0
            clear HK
            clear HB
            have BK167 := n0_
            have HI0 := n1_
            have HK := n2_
            have HB := n3_
            clear n0_ n1_ n2_ n3_
            refine start_ (n := 20) (S := fun w' => True) (ds := []) #[false, false, false, false, false, false, false, false, false, false, false, false, false, false, false, false, false, false, false, false] (by kernel_rfl) rfl rfl trivial (fun hHeld => ?_); refine with_tabW spec_l01Cur_rec.tab3 spec_l01Cur_rec.bits3 (fun HT_ HW_ => ?_)
            generalize w19.drew = w20 at BK167 HI0 HK HB hHeld ⊢
            refine pure_ (i := 0) (N := some 6) (v := ?_) (a' := ?_) #[true, false, false, false, false, false, false, false, false, false, false, false, false, false, false, false, false, false, false, false] rfl rfl (any_of HT_.out (by kernel_rfl)) (fun _ _ _ h => h) (Or.inl ⟨by rfl, ?_⟩) ?_ ?_
            rotate_left
            · intro w'
              go_simp
              with_reducible rfl
            rotate_left
            · simp only [Act.put, List.setIfInBounds_toArray, List.set_cons_zero, List.set_cons_succ, i64_w, i32_w]
              rfl
            refine pure_ (i := 2) (N := some 8) (v := ?_) (a' := ?_) #[true, false, true, false, false, false, false, false, false, false, false, false, false, false, false, false, false, false, false, false] rfl rfl (any_of HT_.out (by kernel_rfl)) (fun _ _ _ h => h) (Or.inl ⟨by rfl, ?_⟩) ?_ ?_
            rotate_left
            · intro w'
              go_simp
              with_reducible rfl
            rotate_left
            · simp only [Act.put, List.setIfInBounds_toArray, List.set_cons_zero, List.set_cons_succ, i64_w, i32_w]
              rfl
            refine pure_ (i := 7) (N := some 13) (v := ?_) (a' := ?_) #[true, false, true, false, false, false, false, true, false, false, false, false, false, false, false, false, false, false, false, false] rfl rfl (any_of HT_.out (by kernel_rfl)) (fun _ _ _ h => h) (Or.inl ⟨by rfl, ?_⟩) ?_ ?_
            rotate_left
            · intro w'
              go_simp
              with_reducible rfl
            rotate_left
            · simp only [Act.put, List.setIfInBounds_toArray, List.set_cons_zero, List.set_cons_succ, i64_w, i32_w]
              rfl
            refine pure_ (i := 9) (N := some 15) (v := ?_) (a' := ?_) #[true, false, true, false, false, false, false, true, false, true, false, false, false, false, false, false, false, false, false, false] rfl rfl (any_of HT_.out (by kernel_rfl)) (fun _ _ _ h => h) (Or.inl ⟨by rfl, ?_⟩) ?_ ?_
            rotate_left
            · intro w'
              go_simp
              with_reducible rfl
            rotate_left
            · simp only [Act.put, List.setIfInBounds_toArray, List.set_cons_zero, List.set_cons_succ, i64_w, i32_w]
              rfl
            refine pure_ (i := 12) (N := some 18) (v := ?_) (a' := ?_) #[true, false, true, false, false, false, false, true, false, true, false, false, true, false, false, false, false, false, false, false] rfl rfl (any_of HT_.out (by kernel_rfl)) (fun _ _ _ h => h) (Or.inl ⟨by rfl, ?_⟩) ?_ ?_
            rotate_left
            · intro w'
              go_simp
              with_reducible rfl
            rotate_left
            · simp only [Act.put, List.setIfInBounds_toArray, List.set_cons_zero, List.set_cons_succ, i64_w, i32_w]
              rfl
            refine pure_ (i := 16) (N := some 22) (v := ?_) (a' := ?_) #[true, false, true, false, false, false, false, true, false, true, false, false, true, false, false, false, true, false, false, false] rfl rfl (any_of HT_.out (by kernel_rfl)) (fun _ _ _ h => h) (Or.inl ⟨by rfl, ?_⟩) ?_ ?_
            rotate_left
            · intro w'
              go_simp
              with_reducible rfl
            rotate_left
            · simp only [Act.put, List.setIfInBounds_toArray, List.set_cons_zero, List.set_cons_succ, i64_w, i32_w]
              rfl
            refine inv_at [1, 3, 4, 5, 6, 8, 10, 11, 13, 14, 15, 17, 18, 19] (fun a0_ b a w' => ∃ (v172 : Value) (adz_v172 : Addr) (v188 : Value) (adz_v188 : Addr) (m4_ : Value) (m14_ : Value), a = putSel a0_ b [(1, 7, v172), (3, 9, .int .i64 t174), (4, 10, m4_), (5, 11, .int .i64 (rd y171 t174)), (6, 12, .int .i64 t178), (8, 14, .int .i64 t181), (10, 16, .int .i64 t184), (11, 17, v188), (13, 19, .int .i64 t190), (14, 20, m14_), (15, 21, .int .i64 (rd y187 t190)), (17, 23, .string t194), (18, 24, .agg #[.bool true, .int .i64 t178, .int .i64 (rd y187 t190), .string t194])] ∧ (b 19 = false → w'.heap[gb167]? = some (.cells #[.bool false, .int .i64 0, .int .i64 0, .string (⟨#[]⟩ : ByteArray)] 25 (0, 0))) ∧ (b 3 = false → IsS60 w0 w' g s0_0 t169 t170) ∧ (KeepBut w w' g none) ∧ (Below w0.heap.size w0 w') ∧ (b 1 = true → Kd.R (Kd.int .i64) 3 w' w.heap.size (fun _ => True) v172 y171) ∧ (b 1 = true → ∃ c_, (v172 : Value) = .slice (some adz_v172) y171.length c_) ∧ (b 3 = true → b 6 = false → IsS60 w0 w' g s0_0 t175 t176) ∧ (b 6 = true → b 8 = false → IsS60 w0 w' g s0_0 t179 t180) ∧ (b 8 = true → b 10 = false → IsS60 w0 w' g s0_0 t182 t183) ∧ (b 10 = true → b 13 = false → IsS60 w0 w' g s0_0 t185 t186) ∧ (b 11 = true → Kd.R (Kd.int .i64) 3 w' w.heap.size (fun _ => True) v188 y187) ∧ (b 11 = true → ∃ c_, (v188 : Value) = .slice (some adz_v188) y187.length c_) ∧ (b 13 = true → b 17 = false → IsS60 w0 w' g s0_0 t191 t192) ∧ (b 17 = true → IsS60 w0 w' g s0_0 t195 t196) ∧ (b 19 = true → w'.heap[gb167]? = some (.cells #[.bool true, .int .i64 t178, .int .i64 (rd y187 t190), .string t194] 25 (0, 0))) ∧ (b 4 = true → (m4_ : Value) = .pointer (some (adz_v172.add (t174).toNat))) ∧ (b 14 = true → (m14_ : Value) = .pointer (some (adz_v188.add (t190).toNat)))) HT_.out HW_.out (by kernel_rfl) (by kernel_rfl) ?_ ?_ ?_
            · exact ⟨.bool false, ⟨0, 0, none⟩, .bool false, ⟨0, 0, none⟩, .bool false, .bool false, by simp only [putSel, Bool.false_eq_true, if_false], fun _ => BK167.out, fun _ => HI0.out, HK.out, HB.out, fun h_ => absurd h_ (by decide), fun h_ => absurd h_ (by decide), fun h_ => absurd h_ (by decide), fun h_ => absurd h_ (by decide), fun h_ => absurd h_ (by decide), fun h_ => absurd h_ (by decide), fun h_ => absurd h_ (by decide), fun h_ => absurd h_ (by decide), fun h_ => absurd h_ (by decide), fun h_ => absurd h_ (by decide), fun h_ => absurd h_ (by decide), fun h_ => absurd h_ (by decide), fun h_ => absurd h_ (by decide)⟩
            · skip
              clear BK167 HB HI0 HK
              refine steps_cons ?_ ?_
              · rintro b a w' ⟨v172, adz_v172, v188, adz_v188, m4_, m14_, ha, Q_BK167, Q_HI0, Q_HK, Q_HB, Q_HO173, Q_HA_HO173, Q_HI0_e3, Q_HI0_e6, Q_HI0_e8, Q_HI0_e10, Q_HO189, Q_HA_HO189, Q_HI0_e13, Q_HI0_e17, Q_BK167_e19, Q_X4_, Q_X14_⟩ hb_ hon hoff
                refine ⟨_, rfl, fun K hK => ?_⟩
                replace ha := Aside0.mk ha
                have BK167 := Aside0.mk (Q_BK167 (hoff 19 (by kernel_rfl)))
                have HK := Aside0.mk Q_HK
                have HB := Aside0.mk Q_HB
                refine Kd.R_lit_step (Kd.int .i64) _ 3 ?hg (N := 7) ?hd (xs := ([3, 8] : List Int)) (inner := [.int .i64 3, .int .i64 8]) (ok := fun _ => True) (okp := fun _ => True) ?hr ?hp (fun _ hk => hk) trivial (Below.refl _ _) (Nat.le_refl _) (by simp) ?_; (case hd => rfl); (case hg => rfl); (case hr => first | (go_simp; done) | (go_simp; rfl)); (case hp => exact (Reps.one (show Kd.M (Kd.int .i64) _ _ _ 3 [.int .i64 3] from rfl) (Reps.one (show Kd.M (Kd.int .i64) _ _ _ 8 [.int .i64 8] from rfl) (Reps.none _ _))))
                intro v172 w21 ho22 hb hg_ hnew_
                clear hg_ hnew_
                (first | rw [← Ny171.out] at ho22 | (simp only [Int.reduceToNat] at ho22; rw [← Ny171.out] at ho22))
                have n0_ := Aside0.mk (Kd.R_lower ho22 (keep_size (w := w) (g := g) (row := none) (by repeat (first | (with_reducible first | exact HK.out | apply KeepBut.set_ | apply keep_drewN | apply keep_drew | apply keep_alloc | refine keep_far ?_ GW167.out _) | exact HK.out))))
                have n2_ := Aside0.mk (blk_below (g := gb167) (o := .cells #[.bool false, .int .i64 0, .int .i64 0, .string (⟨#[]⟩ : ByteArray)] 25 (0, 0)) (by (with_reducible repeat (first | refine blk_drewN ?_ _ | refine blk_drew ?_ | refine blk_alloc ?_ _)); exact BK167.out) hb)
                have n3_ := Aside0.mk (KeepBut.trans (by repeat (first | (with_reducible first | exact HK.out | apply KeepBut.set_ | apply keep_drewN | apply keep_drew | apply keep_alloc | refine keep_far ?_ GW167.out _) | exact HK.out)) (KeepBut.of_below hb g none) (.inl rfl))
                have n4_ := Aside0.mk (below_step (by repeat (first | (with_reducible first | exact HB.out | apply below_alloc | apply pw_below_drewN | apply below_drew1 | refine below_set ?_ GE167.out) | exact HB.out)) hb)
                have z_HI0 := fun (h0_ : b 3 = false) => (show IsS60 w0 w21 g s0_0 t169 t170 from by first | exact (IsS60.below (by repeat (first | (with_reducible first | exact (Q_HI0 h0_) | apply IsS60.alloc | apply IsS60.drewN | apply IsS60.drew | apply IsS60.set_1 | apply IsS60.set_2 | refine IsS60.far ?_ NB0_167.out _) | exact (Q_HI0 h0_))) hb))
                have z_HI0_e3 := fun (h0_ : b 3 = true) (h1_ : b 6 = false) => (show IsS60 w0 w21 g s0_0 t175 t176 from by first | exact (IsS60.below (by repeat (first | (with_reducible first | exact (Q_HI0_e3 h0_ h1_) | apply IsS60.alloc | apply IsS60.drewN | apply IsS60.drew | apply IsS60.set_1 | apply IsS60.set_2 | refine IsS60.far ?_ NB0_167.out _) | exact (Q_HI0_e3 h0_ h1_))) hb))
                clear BK167
                clear HK
                clear HB
                have HO173 := n0_
                have BK167 := n2_
                have HK := n3_
                have HB := n4_
                clear n0_ n2_ n3_ n4_
                clear hb ho22
                obtain ⟨Ao23, co23, eo23⟩ := Kd.R_slice HO173.out
                subst eo23
                obtain ⟨ado23, fo23, _⟩ := Kd.at_int (Kd.R_reads' HO173.out).2.2 0 (by decide) (by rw [Ny171.out]; simp)
                cases fo23
                refine hK.out _ _ ⟨.slice (some ado23) y171.length co23, ado23, v188, adz_v188, m4_, m14_, (by rw [ha.out]; exact putSel_upk 0 hb_ rfl rfl rfl), fun _ => (by (with_reducible repeat (first | refine blk_drewN ?_ _ | refine blk_drew ?_ | refine blk_alloc ?_ _)); exact BK167.out), z_HI0, (by repeat (first | (with_reducible first | exact HK.out | apply KeepBut.set_ | apply keep_drewN | apply keep_drew | apply keep_alloc | refine keep_far ?_ GW167.out _) | exact HK.out)), (by repeat (first | (with_reducible first | exact HB.out | apply below_alloc | apply pw_below_drewN | apply below_drew1 | refine below_set ?_ GE167.out) | exact HB.out)), fun _ => (by (with_reducible repeat (first | apply Kd.R_alloc | apply Kd.R_drewN | apply Kd.R_drew)); exact HO173.out), fun _ => ⟨_, rfl⟩, z_HI0_e3, fun h0_ _ => absurd ((hoff 6 (by kernel_rfl)).symm.trans h0_) (by decide), fun h0_ _ => absurd ((hoff 8 (by kernel_rfl)).symm.trans h0_) (by decide), fun h0_ _ => absurd ((hoff 10 (by kernel_rfl)).symm.trans h0_) (by decide), fun h0_ => absurd ((hoff 11 (by kernel_rfl)).symm.trans h0_) (by decide), fun h0_ => absurd ((hoff 11 (by kernel_rfl)).symm.trans h0_) (by decide), fun h0_ _ => absurd ((hoff 13 (by kernel_rfl)).symm.trans h0_) (by decide), fun h0_ => absurd ((hoff 17 (by kernel_rfl)).symm.trans h0_) (by decide), fun h0_ => absurd ((hoff 19 (by kernel_rfl)).symm.trans h0_) (by decide), fun h0_ => absurd ((hoff 4 (by kernel_rfl)).symm.trans h0_) (by decide), fun h0_ => absurd ((hoff 14 (by kernel_rfl)).symm.trans h0_) (by decide)⟩
              refine steps_cons ?_ ?_
              · rintro b a w' ⟨v172, adz_v172, v188, adz_v188, m4_, m14_, ha, Q_BK167, Q_HI0, Q_HK, Q_HB, Q_HO173, Q_HA_HO173, Q_HI0_e3, Q_HI0_e6, Q_HI0_e8, Q_HI0_e10, Q_HO189, Q_HA_HO189, Q_HI0_e13, Q_HI0_e17, Q_BK167_e19, Q_X4_, Q_X14_⟩ hb_ hon hoff
                refine ⟨_, rfl, fun K hK => ?_⟩
                have e8 : a.tmps[8]? = some (.pointer (some ⟨g, 0, none⟩)) := by rw [ha]; exact (putSel_off rfl).trans rfl
                replace ha := Aside0.mk ha
                have BK167 := Aside0.mk (Q_BK167 (hoff 19 (by kernel_rfl)))
                have HI0 := Aside0.mk (Q_HI0 hb_)
                have HK := Aside0.mk Q_HK
                have HB := Aside0.mk Q_HB
                refine goes_ Try.func42 (by kernel_rfl) rfl #[.pointer (some ⟨g, 0, none⟩), .int .i64 2] (by rfl) rfl rfl (by first | (simp only [List.map_toArray, List.map_cons, List.map_nil, Act.eval, Array.getD_eq_getD_getElem?, Option.getD_some, e8]; done) | (simp only [List.map_toArray, List.map_cons, List.map_nil, Act.eval, Array.getD_eq_getD_getElem?, Option.getD_some, e8]; rfl)) ?_
                with_reducible refine (spec_l01Cur_pick.calls g s0_0 t169 t170 2 t174 t175 t176 w0 _ ?side1 ?side2 A8.out).mono ?_
                (case side1 => repeat (first | (with_reducible first | exact HI0.out | apply IsS60.alloc | apply IsS60.drewN | apply IsS60.drew | apply IsS60.set_1 | apply IsS60.set_2 | refine IsS60.far ?_ NB0_167.out _) | exact HI0.out))
                (case side2 => repeat (first | (with_reducible first | exact HB.out | apply below_alloc | apply pw_below_drewN | apply below_drew1 | refine below_set ?_ (IsS60.ge HI0.out) | refine below_set ?_ GE167.out) | exact HB.out))
                rintro e w21 ⟨rfl, hi, hb, hk⟩
                refine ⟨_, rfl, ?_⟩
                have n0_ := Aside0.mk (KeepBut.blk hk (g' := gb167) (o := .cells #[.bool false, .int .i64 0, .int .i64 0, .string (⟨#[]⟩ : ByteArray)] 25 (0, 0)) (by (with_reducible repeat (first | refine blk_drewN ?_ _ | refine blk_drew ?_ | refine blk_alloc ?_ _)); exact BK167.out) NB167_0.out (by simp))
                have n1_ := Aside0.mk (KeepBut.trans (by repeat (first | (with_reducible first | exact HK.out | apply KeepBut.set_ | apply keep_drewN | apply keep_drew | apply keep_alloc | refine keep_far ?_ GW167.out _) | exact HK.out)) hk (.inl rfl))
                have n2_ := Aside0.mk (hb)
                have n3_ := Aside0.mk (hi)
                have z_HO173 := fun (h0_ : b 1 = true) => (show Kd.R (Kd.int .i64) 3 w21 w.heap.size (fun _ => True) v172 y171 from by first | exact (Kd.R_mono (Kd.R_keep (IsS60.apart (show IsS60 w0 _ g s0_0 t169 t170 from by repeat (first | (with_reducible first | exact HI0.out | apply IsS60.alloc | apply IsS60.drewN | apply IsS60.drew | apply IsS60.set_1 | apply IsS60.set_2 | refine IsS60.far ?_ NB0_167.out _) | exact HI0.out)) (by (with_reducible repeat (first | apply Kd.R_alloc | apply Kd.R_drewN | apply Kd.R_drew)); exact (Q_HO173 h0_)) (by decide)) hk (fun _ h => h.2)) (fun _ h => h.1)) | exact Kd.R_mono (Kd.R_mono (Kd.R_keep (IsS60.apart (show IsS60 w0 _ g s0_0 t169 t170 from by repeat (first | (with_reducible first | exact HI0.out | apply IsS60.alloc | apply IsS60.drewN | apply IsS60.drew | apply IsS60.set_1 | apply IsS60.set_2 | refine IsS60.far ?_ NB0_167.out _) | exact HI0.out)) (by (with_reducible repeat (first | apply Kd.R_alloc | apply Kd.R_drewN | apply Kd.R_drew)); exact (Q_HO173 h0_)) (by decide)) hk (fun _ h => h.2)) (fun _ h => h.1)) (fun _ h_ => by first | trivial | exact h_ | exact h_.1))
                clear BK167
                clear HK
                clear HB
                clear HI0
                have BK167 := n0_
                have HK := n1_
                have HB := n2_
                have HI0 := n3_
                clear n0_ n1_ n2_ n3_
                (try clear hb)
                (try clear hb2)
                (try clear hk)
                (try clear hi)
                refine hK.out _ _ ⟨v172, adz_v172, v188, adz_v188, m4_, m14_, (by rw [ha.out]; exact putSel_upk 1 hb_ rfl rfl rfl), fun _ => (by (with_reducible repeat (first | refine blk_drewN ?_ _ | refine blk_drew ?_ | refine blk_alloc ?_ _)); exact BK167.out), fun h0_ => absurd ((up_self b 3).symm.trans h0_) (by decide), (by repeat (first | (with_reducible first | exact HK.out | apply KeepBut.set_ | apply keep_drewN | apply keep_drew | apply keep_alloc | refine keep_far ?_ GW167.out _) | exact HK.out)), (by repeat (first | (with_reducible first | exact HB.out | apply below_alloc | apply pw_below_drewN | apply below_drew1 | refine below_set ?_ (IsS60.ge HI0.out) | refine below_set ?_ GE167.out) | exact HB.out)), z_HO173, Q_HA_HO173, fun _ _ => (by repeat (first | (with_reducible first | exact HI0.out | apply IsS60.alloc | apply IsS60.drewN | apply IsS60.drew | apply IsS60.set_1 | apply IsS60.set_2 | refine IsS60.far ?_ NB0_167.out _) | exact HI0.out)), fun h0_ _ => absurd ((hoff 6 (by kernel_rfl)).symm.trans h0_) (by decide), fun h0_ _ => absurd ((hoff 8 (by kernel_rfl)).symm.trans h0_) (by decide), fun h0_ _ => absurd ((hoff 10 (by kernel_rfl)).symm.trans h0_) (by decide), fun h0_ => absurd ((hoff 11 (by kernel_rfl)).symm.trans h0_) (by decide), fun h0_ => absurd ((hoff 11 (by kernel_rfl)).symm.trans h0_) (by decide), fun h0_ _ => absurd ((hoff 13 (by kernel_rfl)).symm.trans h0_) (by decide), fun h0_ => absurd ((hoff 17 (by kernel_rfl)).symm.trans h0_) (by decide), fun h0_ => absurd ((hoff 19 (by kernel_rfl)).symm.trans h0_) (by decide), fun h0_ => absurd ((hoff 4 (by kernel_rfl)).symm.trans h0_) (by decide), fun h0_ => absurd ((hoff 14 (by kernel_rfl)).symm.trans h0_) (by decide)⟩
              refine steps_cons ?_ ?_
              · rintro b a w' ⟨v172, adz_v172, v188, adz_v188, m4_, m14_, ha, Q_BK167, Q_HI0, Q_HK, Q_HB, Q_HO173, Q_HA_HO173, Q_HI0_e3, Q_HI0_e6, Q_HI0_e8, Q_HI0_e10, Q_HO189, Q_HA_HO189, Q_HI0_e13, Q_HI0_e17, Q_BK167_e19, Q_X4_, Q_X14_⟩ hb_ hon hoff
                refine ⟨_, rfl, fun K hK => ?_⟩
                have e7 : a.tmps[7]? = some (v172) := by rw [ha]; exact putSel_on (e := (1, 7, v172)) 0 rfl rfl (hon 1 (by kernel_rfl)) rfl
                have e9 : a.tmps[9]? = some (.int .i64 t174) := by rw [ha]; exact putSel_on (e := (3, 9, .int .i64 t174)) 1 rfl rfl (hon 3 (by kernel_rfl)) rfl
                replace ha := Aside0.mk ha
                have BK167 := Aside0.mk (Q_BK167 (hoff 19 (by kernel_rfl)))
                have HK := Aside0.mk Q_HK
                have HB := Aside0.mk Q_HB
                have HO173 := Aside0.mk (Q_HO173 (hon 1 (by kernel_rfl)))
                have HA_HO173 := Aside0.mk (Q_HA_HO173 (hon 1 (by kernel_rfl)))
                have HI0 := Aside0.mk (Q_HI0_e3 (hon 3 (by kernel_rfl)) (hoff 6 (by kernel_rfl)))
                obtain ⟨c_, hv_⟩ := HA_HO173.out
                rw [hv_] at e7
                refine value_ (w1 := w') (v := .pointer (some (adz_v172.add (t174).toNat))) (by rfl) rfl ?_ ?_
                · go_simp
                  (try simp only [i64_w])
                  try rfl
                refine hK.out _ _ ⟨v172, adz_v172, v188, adz_v188, (.pointer (some (adz_v172.add (t174).toNat))), m14_, (by rw [ha.out]; exact putSel_upk 2 hb_ rfl rfl rfl), Q_BK167, fun h0_ => absurd ((hon 3 (by kernel_rfl)).symm.trans h0_) (by decide), Q_HK, Q_HB, Q_HO173, Q_HA_HO173, Q_HI0_e3, fun h0_ _ => absurd ((hoff 6 (by kernel_rfl)).symm.trans h0_) (by decide), fun h0_ _ => absurd ((hoff 8 (by kernel_rfl)).symm.trans h0_) (by decide), fun h0_ _ => absurd ((hoff 10 (by kernel_rfl)).symm.trans h0_) (by decide), fun h0_ => absurd ((hoff 11 (by kernel_rfl)).symm.trans h0_) (by decide), fun h0_ => absurd ((hoff 11 (by kernel_rfl)).symm.trans h0_) (by decide), fun h0_ _ => absurd ((hoff 13 (by kernel_rfl)).symm.trans h0_) (by decide), fun h0_ => absurd ((hoff 17 (by kernel_rfl)).symm.trans h0_) (by decide), fun h0_ => absurd ((hoff 19 (by kernel_rfl)).symm.trans h0_) (by decide), fun _ => rfl, fun h0_ => absurd ((hoff 14 (by kernel_rfl)).symm.trans h0_) (by decide)⟩
              refine steps_cons ?_ ?_
              · rintro b a w' ⟨v172, adz_v172, v188, adz_v188, m4_, m14_, ha, Q_BK167, Q_HI0, Q_HK, Q_HB, Q_HO173, Q_HA_HO173, Q_HI0_e3, Q_HI0_e6, Q_HI0_e8, Q_HI0_e10, Q_HO189, Q_HA_HO189, Q_HI0_e13, Q_HI0_e17, Q_BK167_e19, Q_X4_, Q_X14_⟩ hb_ hon hoff
                refine ⟨_, rfl, fun K hK => ?_⟩
                have e10 : a.tmps[10]? = some (m4_) := by rw [ha]; exact putSel_on (e := (4, 10, m4_)) 2 rfl rfl (hon 4 (by kernel_rfl)) rfl
                rw [Q_X4_ (hon 4 (by kernel_rfl))] at e10
                replace ha := Aside0.mk ha
                have BK167 := Aside0.mk (Q_BK167 (hoff 19 (by kernel_rfl)))
                have HK := Aside0.mk Q_HK
                have HB := Aside0.mk Q_HB
                have HO173 := Aside0.mk (Q_HO173 (hon 1 (by kernel_rfl)))
                have HA_HO173 := Aside0.mk (Q_HA_HO173 (hon 1 (by kernel_rfl)))
                have HI0 := Aside0.mk (Q_HI0_e3 (hon 3 (by kernel_rfl)) (hoff 6 (by kernel_rfl)))
                obtain ⟨c_, hv_⟩ := HA_HO173.out
                have hF_ := HO173.out
                rw [hv_] at hF_
                obtain ⟨ad_, ea_, hx_⟩ := Kd.at_int (Kd.R_reads' hF_).2.2 t174 (of_eq_true pi177) (of_eq_true qi177)
                cases ea_
                refine value_ (w1 := w') (v := .int .i64 (rd y171 t174)) (by rfl) rfl ?_ ?_
                · go_simp
                  (try simp only [i64_w])
                  try rfl
                refine hK.out _ _ ⟨v172, adz_v172, v188, adz_v188, m4_, m14_, (by rw [ha.out]; exact putSel_upk 3 hb_ rfl rfl rfl), Q_BK167, fun h0_ => absurd ((hon 3 (by kernel_rfl)).symm.trans h0_) (by decide), Q_HK, Q_HB, Q_HO173, Q_HA_HO173, Q_HI0_e3, fun h0_ _ => absurd ((hoff 6 (by kernel_rfl)).symm.trans h0_) (by decide), fun h0_ _ => absurd ((hoff 8 (by kernel_rfl)).symm.trans h0_) (by decide), fun h0_ _ => absurd ((hoff 10 (by kernel_rfl)).symm.trans h0_) (by decide), fun h0_ => absurd ((hoff 11 (by kernel_rfl)).symm.trans h0_) (by decide), fun h0_ => absurd ((hoff 11 (by kernel_rfl)).symm.trans h0_) (by decide), fun h0_ _ => absurd ((hoff 13 (by kernel_rfl)).symm.trans h0_) (by decide), fun h0_ => absurd ((hoff 17 (by kernel_rfl)).symm.trans h0_) (by decide), fun h0_ => absurd ((hoff 19 (by kernel_rfl)).symm.trans h0_) (by decide), Q_X4_, fun h0_ => absurd ((hoff 14 (by kernel_rfl)).symm.trans h0_) (by decide)⟩
              refine steps_cons ?_ ?_
              · rintro b a w' ⟨v172, adz_v172, v188, adz_v188, m4_, m14_, ha, Q_BK167, Q_HI0, Q_HK, Q_HB, Q_HO173, Q_HA_HO173, Q_HI0_e3, Q_HI0_e6, Q_HI0_e8, Q_HI0_e10, Q_HO189, Q_HA_HO189, Q_HI0_e13, Q_HI0_e17, Q_BK167_e19, Q_X4_, Q_X14_⟩ hb_ hon hoff
                refine ⟨_, rfl, fun K hK => ?_⟩
                have e6 : a.tmps[6]? = some (.pointer (some ⟨g, 0, none⟩)) := by rw [ha]; exact (putSel_off rfl).trans rfl
                have e11 : a.tmps[11]? = some (.int .i64 (rd y171 t174)) := by rw [ha]; exact putSel_on (e := (5, 11, .int .i64 (rd y171 t174))) 3 rfl rfl (hon 5 (by kernel_rfl)) rfl
                replace ha := Aside0.mk ha
                have BK167 := Aside0.mk (Q_BK167 (hoff 19 (by kernel_rfl)))
                have HK := Aside0.mk Q_HK
                have HB := Aside0.mk Q_HB
                have HO173 := Aside0.mk (Q_HO173 (hon 1 (by kernel_rfl)))
                have HA_HO173 := Aside0.mk (Q_HA_HO173 (hon 1 (by kernel_rfl)))
                have HI0 := Aside0.mk (Q_HI0_e3 (hon 3 (by kernel_rfl)) hb_)
                obtain ⟨co26, eo26⟩ := HA_HO173.out
                clear HA_HO173
                subst eo26
                refine goes_ Try.func42 (by kernel_rfl) rfl #[.pointer (some ⟨g, 0, none⟩), .int .i64 (rd y171 t174)] (by rfl) rfl rfl (by first | (simp only [List.map_toArray, List.map_cons, List.map_nil, Act.eval, Array.getD_eq_getD_getElem?, Option.getD_some, e6, e11]; done) | (simp only [List.map_toArray, List.map_cons, List.map_nil, Act.eval, Array.getD_eq_getD_getElem?, Option.getD_some, e6, e11]; rfl)) ?_
                with_reducible refine (spec_l01Cur_pick.calls g s0_0 t175 t176 (rd y171 t174) t178 t179 t180 w0 _ ?side1 ?side2 A11.out).mono ?_
                (case side1 => repeat (first | (with_reducible first | exact HI0.out | apply IsS60.alloc | apply IsS60.drewN | apply IsS60.drew | apply IsS60.set_1 | apply IsS60.set_2 | refine IsS60.far ?_ NB0_167.out _) | exact HI0.out))
                (case side2 => repeat (first | (with_reducible first | exact HB.out | apply below_alloc | apply pw_below_drewN | apply below_drew1 | refine below_set ?_ (IsS60.ge HI0.out) | refine below_set ?_ GE167.out) | exact HB.out))
                rintro e w27 ⟨rfl, hi, hb, hk⟩
                refine ⟨_, rfl, ?_⟩
                have n0_ := Aside0.mk (KeepBut.blk hk (g' := gb167) (o := .cells #[.bool false, .int .i64 0, .int .i64 0, .string (⟨#[]⟩ : ByteArray)] 25 (0, 0)) (by (with_reducible repeat (first | refine blk_drewN ?_ _ | refine blk_drew ?_ | refine blk_alloc ?_ _)); exact BK167.out) NB167_0.out (by simp))
                have n1_ := Aside0.mk (Kd.R_mono (Kd.R_keep (IsS60.apart (show IsS60 w0 _ g s0_0 t175 t176 from by repeat (first | (with_reducible first | exact HI0.out | apply IsS60.alloc | apply IsS60.drewN | apply IsS60.drew | apply IsS60.set_1 | apply IsS60.set_2 | refine IsS60.far ?_ NB0_167.out _) | exact HI0.out)) (by (with_reducible repeat (first | apply Kd.R_alloc | apply Kd.R_drewN | apply Kd.R_drew)); exact HO173.out) (by decide)) hk (fun _ h => h.2)) (fun _ h => h.1))
                have n2_ := Aside0.mk (KeepBut.trans (by repeat (first | (with_reducible first | exact HK.out | apply KeepBut.set_ | apply keep_drewN | apply keep_drew | apply keep_alloc | refine keep_far ?_ GW167.out _) | exact HK.out)) hk (.inl rfl))
                have n3_ := Aside0.mk (hb)
                have n4_ := Aside0.mk (hi)
                clear BK167
                clear HO173
                clear HK
                clear HB
                clear HI0
                have BK167 := n0_
                have HO173 := n1_
                have HK := n2_
                have HB := n3_
                have HI0 := n4_
                clear n0_ n1_ n2_ n3_ n4_
                (try clear hb)
                (try clear hb2)
                (try clear hk)
                (try clear hi)
                refine hK.out _ _ ⟨.slice (some adz_v172) y171.length co26, adz_v172, v188, adz_v188, m4_, m14_, (by rw [ha.out]; exact putSel_upk 4 hb_ rfl rfl rfl), fun _ => (by (with_reducible repeat (first | refine blk_drewN ?_ _ | refine blk_drew ?_ | refine blk_alloc ?_ _)); exact BK167.out), fun h0_ => absurd ((hon 3 (by kernel_rfl)).symm.trans h0_) (by decide), (by repeat (first | (with_reducible first | exact HK.out | apply KeepBut.set_ | apply keep_drewN | apply keep_drew | apply keep_alloc | refine keep_far ?_ GW167.out _) | exact HK.out)), (by repeat (first | (with_reducible first | exact HB.out | apply below_alloc | apply pw_below_drewN | apply below_drew1 | refine below_set ?_ (IsS60.ge HI0.out) | refine below_set ?_ GE167.out) | exact HB.out)), fun _ => (by (with_reducible repeat (first | apply Kd.R_alloc | apply Kd.R_drewN | apply Kd.R_drew)); exact HO173.out), fun _ => ⟨_, rfl⟩, fun _ h1_ => absurd ((up_self b 6).symm.trans h1_) (by decide), fun _ _ => (by repeat (first | (with_reducible first | exact HI0.out | apply IsS60.alloc | apply IsS60.drewN | apply IsS60.drew | apply IsS60.set_1 | apply IsS60.set_2 | refine IsS60.far ?_ NB0_167.out _) | exact HI0.out)), fun h0_ _ => absurd ((hoff 8 (by kernel_rfl)).symm.trans h0_) (by decide), fun h0_ _ => absurd ((hoff 10 (by kernel_rfl)).symm.trans h0_) (by decide), fun h0_ => absurd ((hoff 11 (by kernel_rfl)).symm.trans h0_) (by decide), fun h0_ => absurd ((hoff 11 (by kernel_rfl)).symm.trans h0_) (by decide), fun h0_ _ => absurd ((hoff 13 (by kernel_rfl)).symm.trans h0_) (by decide), fun h0_ => absurd ((hoff 17 (by kernel_rfl)).symm.trans h0_) (by decide), fun h0_ => absurd ((hoff 19 (by kernel_rfl)).symm.trans h0_) (by decide), Q_X4_, fun h0_ => absurd ((hoff 14 (by kernel_rfl)).symm.trans h0_) (by decide)⟩
              refine steps_cons ?_ ?_
              · rintro b a w' ⟨v172, adz_v172, v188, adz_v188, m4_, m14_, ha, Q_BK167, Q_HI0, Q_HK, Q_HB, Q_HO173, Q_HA_HO173, Q_HI0_e3, Q_HI0_e6, Q_HI0_e8, Q_HI0_e10, Q_HO189, Q_HA_HO189, Q_HI0_e13, Q_HI0_e17, Q_BK167_e19, Q_X4_, Q_X14_⟩ hb_ hon hoff
                refine ⟨_, rfl, fun K hK => ?_⟩
                have e13 : a.tmps[13]? = some (.pointer (some ⟨g, 0, none⟩)) := by rw [ha]; exact (putSel_off rfl).trans rfl
                replace ha := Aside0.mk ha
                have BK167 := Aside0.mk (Q_BK167 (hoff 19 (by kernel_rfl)))
                have HK := Aside0.mk Q_HK
                have HB := Aside0.mk Q_HB
                have HO173 := Aside0.mk (Q_HO173 (hon 1 (by kernel_rfl)))
                have HA_HO173 := Aside0.mk (Q_HA_HO173 (hon 1 (by kernel_rfl)))
                have HI0 := Aside0.mk (Q_HI0_e6 (hon 6 (by kernel_rfl)) hb_)
                obtain ⟨co27, eo27⟩ := HA_HO173.out
                clear HA_HO173
                subst eo27
                refine goes_ Try.func42 (by kernel_rfl) rfl #[.pointer (some ⟨g, 0, none⟩), .int .i64 3] (by rfl) rfl rfl (by first | (simp only [List.map_toArray, List.map_cons, List.map_nil, Act.eval, Array.getD_eq_getD_getElem?, Option.getD_some, e13]; done) | (simp only [List.map_toArray, List.map_cons, List.map_nil, Act.eval, Array.getD_eq_getD_getElem?, Option.getD_some, e13]; rfl)) ?_
                with_reducible refine (spec_l01Cur_pick.calls g s0_0 t179 t180 3 t181 t182 t183 w0 _ ?side1 ?side2 A12.out).mono ?_
                (case side1 => repeat (first | (with_reducible first | exact HI0.out | apply IsS60.alloc | apply IsS60.drewN | apply IsS60.drew | apply IsS60.set_1 | apply IsS60.set_2 | refine IsS60.far ?_ NB0_167.out _) | exact HI0.out))
                (case side2 => repeat (first | (with_reducible first | exact HB.out | apply below_alloc | apply pw_below_drewN | apply below_drew1 | refine below_set ?_ (IsS60.ge HI0.out) | refine below_set ?_ GE167.out) | exact HB.out))
                rintro e w28 ⟨rfl, hi, hb, hk⟩
                refine ⟨_, rfl, ?_⟩
                have n0_ := Aside0.mk (KeepBut.blk hk (g' := gb167) (o := .cells #[.bool false, .int .i64 0, .int .i64 0, .string (⟨#[]⟩ : ByteArray)] 25 (0, 0)) (by (with_reducible repeat (first | refine blk_drewN ?_ _ | refine blk_drew ?_ | refine blk_alloc ?_ _)); exact BK167.out) NB167_0.out (by simp))
                have n1_ := Aside0.mk (Kd.R_mono (Kd.R_keep (IsS60.apart (show IsS60 w0 _ g s0_0 t179 t180 from by repeat (first | (with_reducible first | exact HI0.out | apply IsS60.alloc | apply IsS60.drewN | apply IsS60.drew | apply IsS60.set_1 | apply IsS60.set_2 | refine IsS60.far ?_ NB0_167.out _) | exact HI0.out)) (by (with_reducible repeat (first | apply Kd.R_alloc | apply Kd.R_drewN | apply Kd.R_drew)); exact HO173.out) (by decide)) hk (fun _ h => h.2)) (fun _ h => h.1))
                have n2_ := Aside0.mk (KeepBut.trans (by repeat (first | (with_reducible first | exact HK.out | apply KeepBut.set_ | apply keep_drewN | apply keep_drew | apply keep_alloc | refine keep_far ?_ GW167.out _) | exact HK.out)) hk (.inl rfl))
                have n3_ := Aside0.mk (hb)
                have n4_ := Aside0.mk (hi)
                clear BK167
                clear HO173
                clear HK
                clear HB
                clear HI0
                have BK167 := n0_
                have HO173 := n1_
                have HK := n2_
                have HB := n3_
                have HI0 := n4_
                clear n0_ n1_ n2_ n3_ n4_
                (try clear hb)
                (try clear hb2)
                (try clear hk)
                (try clear hi)
                refine hK.out _ _ ⟨.slice (some adz_v172) y171.length co27, adz_v172, v188, adz_v188, m4_, m14_, (by rw [ha.out]; exact putSel_upk 5 hb_ rfl rfl rfl), fun _ => (by (with_reducible repeat (first | refine blk_drewN ?_ _ | refine blk_drew ?_ | refine blk_alloc ?_ _)); exact BK167.out), fun h0_ => absurd ((hon 3 (by kernel_rfl)).symm.trans h0_) (by decide), (by repeat (first | (with_reducible first | exact HK.out | apply KeepBut.set_ | apply keep_drewN | apply keep_drew | apply keep_alloc | refine keep_far ?_ GW167.out _) | exact HK.out)), (by repeat (first | (with_reducible first | exact HB.out | apply below_alloc | apply pw_below_drewN | apply below_drew1 | refine below_set ?_ (IsS60.ge HI0.out) | refine below_set ?_ GE167.out) | exact HB.out)), fun _ => (by (with_reducible repeat (first | apply Kd.R_alloc | apply Kd.R_drewN | apply Kd.R_drew)); exact HO173.out), fun _ => ⟨_, rfl⟩, fun _ h1_ => absurd ((hon 6 (by kernel_rfl)).symm.trans h1_) (by decide), fun _ h1_ => absurd ((up_self b 8).symm.trans h1_) (by decide), fun _ _ => (by repeat (first | (with_reducible first | exact HI0.out | apply IsS60.alloc | apply IsS60.drewN | apply IsS60.drew | apply IsS60.set_1 | apply IsS60.set_2 | refine IsS60.far ?_ NB0_167.out _) | exact HI0.out)), fun h0_ _ => absurd ((hoff 10 (by kernel_rfl)).symm.trans h0_) (by decide), fun h0_ => absurd ((hoff 11 (by kernel_rfl)).symm.trans h0_) (by decide), fun h0_ => absurd ((hoff 11 (by kernel_rfl)).symm.trans h0_) (by decide), fun h0_ _ => absurd ((hoff 13 (by kernel_rfl)).symm.trans h0_) (by decide), fun h0_ => absurd ((hoff 17 (by kernel_rfl)).symm.trans h0_) (by decide), fun h0_ => absurd ((hoff 19 (by kernel_rfl)).symm.trans h0_) (by decide), Q_X4_, fun h0_ => absurd ((hoff 14 (by kernel_rfl)).symm.trans h0_) (by decide)⟩
              refine steps_cons ?_ ?_
              · rintro b a w' ⟨v172, adz_v172, v188, adz_v188, m4_, m14_, ha, Q_BK167, Q_HI0, Q_HK, Q_HB, Q_HO173, Q_HA_HO173, Q_HI0_e3, Q_HI0_e6, Q_HI0_e8, Q_HI0_e10, Q_HO189, Q_HA_HO189, Q_HI0_e13, Q_HI0_e17, Q_BK167_e19, Q_X4_, Q_X14_⟩ hb_ hon hoff
                refine ⟨_, rfl, fun K hK => ?_⟩
                have e15 : a.tmps[15]? = some (.pointer (some ⟨g, 0, none⟩)) := by rw [ha]; exact (putSel_off rfl).trans rfl
                replace ha := Aside0.mk ha
                have BK167 := Aside0.mk (Q_BK167 (hoff 19 (by kernel_rfl)))
                have HK := Aside0.mk Q_HK
                have HB := Aside0.mk Q_HB
                have HO173 := Aside0.mk (Q_HO173 (hon 1 (by kernel_rfl)))
                have HA_HO173 := Aside0.mk (Q_HA_HO173 (hon 1 (by kernel_rfl)))
                have HI0 := Aside0.mk (Q_HI0_e8 (hon 8 (by kernel_rfl)) hb_)
                obtain ⟨co28, eo28⟩ := HA_HO173.out
                clear HA_HO173
                subst eo28
                refine goes_ Try.func56 (by kernel_rfl) rfl #[.pointer (some ⟨g, 0, none⟩), .int .i64 65536] (by rfl) rfl rfl (by first | (simp only [List.map_toArray, List.map_cons, List.map_nil, Act.eval, Array.getD_eq_getD_getElem?, Option.getD_some, e15]; done) | (simp only [List.map_toArray, List.map_cons, List.map_nil, Act.eval, Array.getD_eq_getD_getElem?, Option.getD_some, e15]; rfl)) ?_
                with_reducible refine (spec_l01Cur_wide.calls g s0_0 t182 t183 65536 t184 t185 t186 w0 _ ?side1 ?side2 A13.out).mono ?_
                (case side1 => repeat (first | (with_reducible first | exact HI0.out | apply IsS60.alloc | apply IsS60.drewN | apply IsS60.drew | apply IsS60.set_1 | apply IsS60.set_2 | refine IsS60.far ?_ NB0_167.out _) | exact HI0.out))
                (case side2 => repeat (first | (with_reducible first | exact HB.out | apply below_alloc | apply pw_below_drewN | apply below_drew1 | refine below_set ?_ (IsS60.ge HI0.out) | refine below_set ?_ GE167.out) | exact HB.out))
                rintro e w29 ⟨rfl, hi, hb, hk⟩
                refine ⟨_, rfl, ?_⟩
                have n0_ := Aside0.mk (KeepBut.blk hk (g' := gb167) (o := .cells #[.bool false, .int .i64 0, .int .i64 0, .string (⟨#[]⟩ : ByteArray)] 25 (0, 0)) (by (with_reducible repeat (first | refine blk_drewN ?_ _ | refine blk_drew ?_ | refine blk_alloc ?_ _)); exact BK167.out) NB167_0.out (by simp))
                have n1_ := Aside0.mk (Kd.R_mono (Kd.R_keep (IsS60.apart (show IsS60 w0 _ g s0_0 t182 t183 from by repeat (first | (with_reducible first | exact HI0.out | apply IsS60.alloc | apply IsS60.drewN | apply IsS60.drew | apply IsS60.set_1 | apply IsS60.set_2 | refine IsS60.far ?_ NB0_167.out _) | exact HI0.out)) (by (with_reducible repeat (first | apply Kd.R_alloc | apply Kd.R_drewN | apply Kd.R_drew)); exact HO173.out) (by decide)) hk (fun _ h => h.2)) (fun _ h => h.1))
                have n2_ := Aside0.mk (KeepBut.trans (by repeat (first | (with_reducible first | exact HK.out | apply KeepBut.set_ | apply keep_drewN | apply keep_drew | apply keep_alloc | refine keep_far ?_ GW167.out _) | exact HK.out)) hk (.inl rfl))
                have n3_ := Aside0.mk (hb)
                have n4_ := Aside0.mk (hi)
                clear BK167
                clear HO173
                clear HK
                clear HB
                clear HI0
                have BK167 := n0_
                have HO173 := n1_
                have HK := n2_
                have HB := n3_
                have HI0 := n4_
                clear n0_ n1_ n2_ n3_ n4_
                (try clear hb)
                (try clear hb2)
                (try clear hk)
                (try clear hi)
                refine hK.out _ _ ⟨.slice (some adz_v172) y171.length co28, adz_v172, v188, adz_v188, m4_, m14_, (by rw [ha.out]; exact putSel_upk 6 hb_ rfl rfl rfl), fun _ => (by (with_reducible repeat (first | refine blk_drewN ?_ _ | refine blk_drew ?_ | refine blk_alloc ?_ _)); exact BK167.out), fun h0_ => absurd ((hon 3 (by kernel_rfl)).symm.trans h0_) (by decide), (by repeat (first | (with_reducible first | exact HK.out | apply KeepBut.set_ | apply keep_drewN | apply keep_drew | apply keep_alloc | refine keep_far ?_ GW167.out _) | exact HK.out)), (by repeat (first | (with_reducible first | exact HB.out | apply below_alloc | apply pw_below_drewN | apply below_drew1 | refine below_set ?_ (IsS60.ge HI0.out) | refine below_set ?_ GE167.out) | exact HB.out)), fun _ => (by (with_reducible repeat (first | apply Kd.R_alloc | apply Kd.R_drewN | apply Kd.R_drew)); exact HO173.out), fun _ => ⟨_, rfl⟩, fun _ h1_ => absurd ((hon 6 (by kernel_rfl)).symm.trans h1_) (by decide), fun _ h1_ => absurd ((hon 8 (by kernel_rfl)).symm.trans h1_) (by decide), fun _ h1_ => absurd ((up_self b 10).symm.trans h1_) (by decide), fun _ _ => (by repeat (first | (with_reducible first | exact HI0.out | apply IsS60.alloc | apply IsS60.drewN | apply IsS60.drew | apply IsS60.set_1 | apply IsS60.set_2 | refine IsS60.far ?_ NB0_167.out _) | exact HI0.out)), fun h0_ => absurd ((hoff 11 (by kernel_rfl)).symm.trans h0_) (by decide), fun h0_ => absurd ((hoff 11 (by kernel_rfl)).symm.trans h0_) (by decide), fun h0_ _ => absurd ((hoff 13 (by kernel_rfl)).symm.trans h0_) (by decide), fun h0_ => absurd ((hoff 17 (by kernel_rfl)).symm.trans h0_) (by decide), fun h0_ => absurd ((hoff 19 (by kernel_rfl)).symm.trans h0_) (by decide), Q_X4_, fun h0_ => absurd ((hoff 14 (by kernel_rfl)).symm.trans h0_) (by decide)⟩
              refine steps_cons ?_ ?_
              · rintro b a w' ⟨v172, adz_v172, v188, adz_v188, m4_, m14_, ha, Q_BK167, Q_HI0, Q_HK, Q_HB, Q_HO173, Q_HA_HO173, Q_HI0_e3, Q_HI0_e6, Q_HI0_e8, Q_HI0_e10, Q_HO189, Q_HA_HO189, Q_HI0_e13, Q_HI0_e17, Q_BK167_e19, Q_X4_, Q_X14_⟩ hb_ hon hoff
                refine ⟨_, rfl, fun K hK => ?_⟩
                have e14 : a.tmps[14]? = some (.int .i64 t181) := by rw [ha]; exact putSel_on (e := (8, 14, .int .i64 t181)) 5 rfl rfl (hon 8 (by kernel_rfl)) rfl
                have e16 : a.tmps[16]? = some (.int .i64 t184) := by rw [ha]; exact putSel_on (e := (10, 16, .int .i64 t184)) 6 rfl rfl (hon 10 (by kernel_rfl)) rfl
                replace ha := Aside0.mk ha
                have BK167 := Aside0.mk (Q_BK167 (hoff 19 (by kernel_rfl)))
                have HK := Aside0.mk Q_HK
                have HB := Aside0.mk Q_HB
                have HO173 := Aside0.mk (Q_HO173 (hon 1 (by kernel_rfl)))
                have HA_HO173 := Aside0.mk (Q_HA_HO173 (hon 1 (by kernel_rfl)))
                obtain ⟨co29, eo29⟩ := HA_HO173.out
                clear HA_HO173
                subst eo29
                refine Kd.R_lit_step (Kd.int .i64) _ 3 ?hg (N := 17) ?hd (xs := ([t181, t184, 65535] : List Int)) (inner := [.int .i64 t181, .int .i64 t184, .int .i64 65535]) (ok := fun _ => True) (okp := fun _ => True) ?hr ?hp (fun _ hk => hk) trivial (Below.refl _ _) (Nat.le_refl _) (by simp) ?_; (case hd => rfl); (case hg => rfl); (case hr => first | (go_simp; done) | (go_simp; rfl)); (case hp => exact (Reps.one (show Kd.M (Kd.int .i64) _ _ _ t181 [.int .i64 t181] from rfl) (Reps.one (show Kd.M (Kd.int .i64) _ _ _ t184 [.int .i64 t184] from rfl) (Reps.one (show Kd.M (Kd.int .i64) _ _ _ 65535 [.int .i64 65535] from rfl) (Reps.none _ _)))))
                intro v188 w30 ho31 hb hg_ hnew_
                clear hg_ hnew_
                (first | rw [← Ny187.out] at ho31 | (simp only [Int.reduceToNat] at ho31; rw [← Ny187.out] at ho31))
                have n0_ := Aside0.mk (Kd.R_elder' (by (with_reducible repeat (first | apply Kd.R_alloc | apply Kd.R_drewN | apply Kd.R_drew)); exact HO173.out) (Kd.R_base ho31) hb)
                have n1_ := Aside0.mk (Kd.R_lower (Kd.R_new' ho31 (Kd.R_lt (by (with_reducible repeat (first | apply Kd.R_alloc | apply Kd.R_drewN | apply Kd.R_drew)); exact HO173.out))) (keep_size (w := w) (g := g) (row := none) (by repeat (first | (with_reducible first | exact HK.out | apply KeepBut.set_ | apply keep_drewN | apply keep_drew | apply keep_alloc | refine keep_far ?_ GW167.out _) | exact HK.out))))
                have n3_ := Aside0.mk (blk_below (g := gb167) (o := .cells #[.bool false, .int .i64 0, .int .i64 0, .string (⟨#[]⟩ : ByteArray)] 25 (0, 0)) (by (with_reducible repeat (first | refine blk_drewN ?_ _ | refine blk_drew ?_ | refine blk_alloc ?_ _)); exact BK167.out) hb)
                have n4_ := Aside0.mk (KeepBut.trans (by repeat (first | (with_reducible first | exact HK.out | apply KeepBut.set_ | apply keep_drewN | apply keep_drew | apply keep_alloc | refine keep_far ?_ GW167.out _) | exact HK.out)) (KeepBut.of_below hb g none) (.inl rfl))
                have n5_ := Aside0.mk (below_step (by repeat (first | (with_reducible first | exact HB.out | apply below_alloc | apply pw_below_drewN | apply below_drew1 | refine below_set ?_ GE167.out) | exact HB.out)) hb)
                have z_HI0_e10 := fun (h0_ : b 10 = true) (h1_ : b 13 = false) => (show IsS60 w0 w30 g s0_0 t185 t186 from by first | exact (IsS60.below (by repeat (first | (with_reducible first | exact (Q_HI0_e10 h0_ h1_) | apply IsS60.alloc | apply IsS60.drewN | apply IsS60.drew | apply IsS60.set_1 | apply IsS60.set_2 | refine IsS60.far ?_ NB0_167.out _) | exact (Q_HI0_e10 h0_ h1_))) hb))
                have z_HI0_e13 := fun (h0_ : b 13 = true) (h1_ : b 17 = false) => (show IsS60 w0 w30 g s0_0 t191 t192 from by first | exact (IsS60.below (by repeat (first | (with_reducible first | exact (Q_HI0_e13 h0_ h1_) | apply IsS60.alloc | apply IsS60.drewN | apply IsS60.drew | apply IsS60.set_1 | apply IsS60.set_2 | refine IsS60.far ?_ NB0_167.out _) | exact (Q_HI0_e13 h0_ h1_))) hb))
                have z_HI0_e17 := fun (h0_ : b 17 = true) => (show IsS60 w0 w30 g s0_0 t195 t196 from by first | exact (IsS60.below (by repeat (first | (with_reducible first | exact (Q_HI0_e17 h0_) | apply IsS60.alloc | apply IsS60.drewN | apply IsS60.drew | apply IsS60.set_1 | apply IsS60.set_2 | refine IsS60.far ?_ NB0_167.out _) | exact (Q_HI0_e17 h0_))) hb))
                clear HO173
                clear BK167
                clear HK
                clear HB
                have HO173 := n0_
                have HO189 := n1_
                have BK167 := n3_
                have HK := n4_
                have HB := n5_
                clear n0_ n1_ n3_ n4_ n5_
                clear hb ho31
                obtain ⟨Ao32, co32, eo32⟩ := Kd.R_slice HO189.out
                subst eo32
                obtain ⟨ado32, fo32, _⟩ := Kd.at_int (Kd.R_reads' HO189.out).2.2 0 (by decide) (by rw [Ny187.out]; simp)
                cases fo32
                refine hK.out _ _ ⟨.slice (some adz_v172) y171.length co29, adz_v172, .slice (some ado32) y187.length co32, ado32, m4_, m14_, (by rw [ha.out]; exact putSel_upk 7 hb_ rfl rfl rfl), fun _ => (by (with_reducible repeat (first | refine blk_drewN ?_ _ | refine blk_drew ?_ | refine blk_alloc ?_ _)); exact BK167.out), fun h0_ => absurd ((hon 3 (by kernel_rfl)).symm.trans h0_) (by decide), (by repeat (first | (with_reducible first | exact HK.out | apply KeepBut.set_ | apply keep_drewN | apply keep_drew | apply keep_alloc | refine keep_far ?_ GW167.out _) | exact HK.out)), (by repeat (first | (with_reducible first | exact HB.out | apply below_alloc | apply pw_below_drewN | apply below_drew1 | refine below_set ?_ GE167.out) | exact HB.out)), fun _ => (by (with_reducible repeat (first | apply Kd.R_alloc | apply Kd.R_drewN | apply Kd.R_drew)); exact Kd.R_mono HO173.out (fun _ hk => by first | exact hk.2 | trivial)), fun _ => ⟨_, rfl⟩, fun _ h1_ => absurd ((hon 6 (by kernel_rfl)).symm.trans h1_) (by decide), fun _ h1_ => absurd ((hon 8 (by kernel_rfl)).symm.trans h1_) (by decide), fun _ h1_ => absurd ((hon 10 (by kernel_rfl)).symm.trans h1_) (by decide), z_HI0_e10, fun _ => (by (with_reducible repeat (first | apply Kd.R_alloc | apply Kd.R_drewN | apply Kd.R_drew)); exact Kd.R_mono HO189.out (fun _ hk => by first | exact hk.2 | trivial)), fun _ => ⟨_, rfl⟩, z_HI0_e13, z_HI0_e17, fun h0_ => absurd ((hoff 19 (by kernel_rfl)).symm.trans h0_) (by decide), Q_X4_, fun h0_ => absurd ((hoff 14 (by kernel_rfl)).symm.trans h0_) (by decide)⟩
              refine steps_cons ?_ ?_
              · rintro b a w' ⟨v172, adz_v172, v188, adz_v188, m4_, m14_, ha, Q_BK167, Q_HI0, Q_HK, Q_HB, Q_HO173, Q_HA_HO173, Q_HI0_e3, Q_HI0_e6, Q_HI0_e8, Q_HI0_e10, Q_HO189, Q_HA_HO189, Q_HI0_e13, Q_HI0_e17, Q_BK167_e19, Q_X4_, Q_X14_⟩ hb_ hon hoff
                refine ⟨_, rfl, fun K hK => ?_⟩
                have e18 : a.tmps[18]? = some (.pointer (some ⟨g, 0, none⟩)) := by rw [ha]; exact (putSel_off rfl).trans rfl
                replace ha := Aside0.mk ha
                have BK167 := Aside0.mk (Q_BK167 (hoff 19 (by kernel_rfl)))
                have HK := Aside0.mk Q_HK
                have HB := Aside0.mk Q_HB
                have HO173 := Aside0.mk (Q_HO173 (hon 1 (by kernel_rfl)))
                have HA_HO173 := Aside0.mk (Q_HA_HO173 (hon 1 (by kernel_rfl)))
                have HI0 := Aside0.mk (Q_HI0_e10 (hon 10 (by kernel_rfl)) hb_)
                obtain ⟨co29, eo29⟩ := HA_HO173.out
                clear HA_HO173
                subst eo29
                refine goes_ Try.func42 (by kernel_rfl) rfl #[.pointer (some ⟨g, 0, none⟩), .int .i64 3] (by rfl) rfl rfl (by first | (simp only [List.map_toArray, List.map_cons, List.map_nil, Act.eval, Array.getD_eq_getD_getElem?, Option.getD_some, e18]; done) | (simp only [List.map_toArray, List.map_cons, List.map_nil, Act.eval, Array.getD_eq_getD_getElem?, Option.getD_some, e18]; rfl)) ?_
                with_reducible refine (spec_l01Cur_pick.calls g s0_0 t185 t186 3 t190 t191 t192 w0 _ ?side1 ?side2 A14.out).mono ?_
                (case side1 => repeat (first | (with_reducible first | exact HI0.out | apply IsS60.alloc | apply IsS60.drewN | apply IsS60.drew | apply IsS60.set_1 | apply IsS60.set_2 | refine IsS60.far ?_ NB0_167.out _) | exact HI0.out))
                (case side2 => repeat (first | (with_reducible first | exact HB.out | apply below_alloc | apply pw_below_drewN | apply below_drew1 | refine below_set ?_ (IsS60.ge HI0.out) | refine below_set ?_ GE167.out) | exact HB.out))
                rintro e w30 ⟨rfl, hi, hb, hk⟩
                refine ⟨_, rfl, ?_⟩
                have n0_ := Aside0.mk (KeepBut.blk hk (g' := gb167) (o := .cells #[.bool false, .int .i64 0, .int .i64 0, .string (⟨#[]⟩ : ByteArray)] 25 (0, 0)) (by (with_reducible repeat (first | refine blk_drewN ?_ _ | refine blk_drew ?_ | refine blk_alloc ?_ _)); exact BK167.out) NB167_0.out (by simp))
                have n1_ := Aside0.mk (Kd.R_mono (Kd.R_keep (IsS60.apart (show IsS60 w0 _ g s0_0 t185 t186 from by repeat (first | (with_reducible first | exact HI0.out | apply IsS60.alloc | apply IsS60.drewN | apply IsS60.drew | apply IsS60.set_1 | apply IsS60.set_2 | refine IsS60.far ?_ NB0_167.out _) | exact HI0.out)) (by (with_reducible repeat (first | apply Kd.R_alloc | apply Kd.R_drewN | apply Kd.R_drew)); exact HO173.out) (by decide)) hk (fun _ h => h.2)) (fun _ h => h.1))
                have n2_ := Aside0.mk (KeepBut.trans (by repeat (first | (with_reducible first | exact HK.out | apply KeepBut.set_ | apply keep_drewN | apply keep_drew | apply keep_alloc | refine keep_far ?_ GW167.out _) | exact HK.out)) hk (.inl rfl))
                have n3_ := Aside0.mk (hb)
                have n4_ := Aside0.mk (hi)
                have z_HO189 := fun (h0_ : b 11 = true) => (show Kd.R (Kd.int .i64) 3 w30 w.heap.size (fun _ => True) v188 y187 from by first | exact (Kd.R_mono (Kd.R_keep (IsS60.apart (show IsS60 w0 _ g s0_0 t185 t186 from by repeat (first | (with_reducible first | exact HI0.out | apply IsS60.alloc | apply IsS60.drewN | apply IsS60.drew | apply IsS60.set_1 | apply IsS60.set_2 | refine IsS60.far ?_ NB0_167.out _) | exact HI0.out)) (by (with_reducible repeat (first | apply Kd.R_alloc | apply Kd.R_drewN | apply Kd.R_drew)); exact (Q_HO189 h0_)) (by decide)) hk (fun _ h => h.2)) (fun _ h => h.1)) | exact Kd.R_mono (Kd.R_mono (Kd.R_keep (IsS60.apart (show IsS60 w0 _ g s0_0 t185 t186 from by repeat (first | (with_reducible first | exact HI0.out | apply IsS60.alloc | apply IsS60.drewN | apply IsS60.drew | apply IsS60.set_1 | apply IsS60.set_2 | refine IsS60.far ?_ NB0_167.out _) | exact HI0.out)) (by (with_reducible repeat (first | apply Kd.R_alloc | apply Kd.R_drewN | apply Kd.R_drew)); exact (Q_HO189 h0_)) (by decide)) hk (fun _ h => h.2)) (fun _ h => h.1)) (fun _ h_ => by first | trivial | exact h_ | exact h_.1))
                clear BK167
                clear HO173
                clear HK
                clear HB
                clear HI0
                have BK167 := n0_
                have HO173 := n1_
                have HK := n2_
                have HB := n3_
                have HI0 := n4_
                clear n0_ n1_ n2_ n3_ n4_
                (try clear hb)
                (try clear hb2)
                (try clear hk)
                (try clear hi)
                refine hK.out _ _ ⟨.slice (some adz_v172) y171.length co29, adz_v172, v188, adz_v188, m4_, m14_, (by rw [ha.out]; exact putSel_upk 8 hb_ rfl rfl rfl), fun _ => (by (with_reducible repeat (first | refine blk_drewN ?_ _ | refine blk_drew ?_ | refine blk_alloc ?_ _)); exact BK167.out), fun h0_ => absurd ((hon 3 (by kernel_rfl)).symm.trans h0_) (by decide), (by repeat (first | (with_reducible first | exact HK.out | apply KeepBut.set_ | apply keep_drewN | apply keep_drew | apply keep_alloc | refine keep_far ?_ GW167.out _) | exact HK.out)), (by repeat (first | (with_reducible first | exact HB.out | apply below_alloc | apply pw_below_drewN | apply below_drew1 | refine below_set ?_ (IsS60.ge HI0.out) | refine below_set ?_ GE167.out) | exact HB.out)), fun _ => (by (with_reducible repeat (first | apply Kd.R_alloc | apply Kd.R_drewN | apply Kd.R_drew)); exact HO173.out), fun _ => ⟨_, rfl⟩, fun _ h1_ => absurd ((hon 6 (by kernel_rfl)).symm.trans h1_) (by decide), fun _ h1_ => absurd ((hon 8 (by kernel_rfl)).symm.trans h1_) (by decide), fun _ h1_ => absurd ((hon 10 (by kernel_rfl)).symm.trans h1_) (by decide), fun _ h1_ => absurd ((up_self b 13).symm.trans h1_) (by decide), z_HO189, Q_HA_HO189, fun _ _ => (by repeat (first | (with_reducible first | exact HI0.out | apply IsS60.alloc | apply IsS60.drewN | apply IsS60.drew | apply IsS60.set_1 | apply IsS60.set_2 | refine IsS60.far ?_ NB0_167.out _) | exact HI0.out)), fun h0_ => absurd ((hoff 17 (by kernel_rfl)).symm.trans h0_) (by decide), fun h0_ => absurd ((hoff 19 (by kernel_rfl)).symm.trans h0_) (by decide), Q_X4_, fun h0_ => absurd ((hoff 14 (by kernel_rfl)).symm.trans h0_) (by decide)⟩
              refine steps_cons ?_ ?_
              · rintro b a w' ⟨v172, adz_v172, v188, adz_v188, m4_, m14_, ha, Q_BK167, Q_HI0, Q_HK, Q_HB, Q_HO173, Q_HA_HO173, Q_HI0_e3, Q_HI0_e6, Q_HI0_e8, Q_HI0_e10, Q_HO189, Q_HA_HO189, Q_HI0_e13, Q_HI0_e17, Q_BK167_e19, Q_X4_, Q_X14_⟩ hb_ hon hoff
                refine ⟨_, rfl, fun K hK => ?_⟩
                have e17 : a.tmps[17]? = some (v188) := by rw [ha]; exact putSel_on (e := (11, 17, v188)) 7 rfl rfl (hon 11 (by kernel_rfl)) rfl
                have e19 : a.tmps[19]? = some (.int .i64 t190) := by rw [ha]; exact putSel_on (e := (13, 19, .int .i64 t190)) 8 rfl rfl (hon 13 (by kernel_rfl)) rfl
                replace ha := Aside0.mk ha
                have BK167 := Aside0.mk (Q_BK167 (hoff 19 (by kernel_rfl)))
                have HK := Aside0.mk Q_HK
                have HB := Aside0.mk Q_HB
                have HO173 := Aside0.mk (Q_HO173 (hon 1 (by kernel_rfl)))
                have HA_HO173 := Aside0.mk (Q_HA_HO173 (hon 1 (by kernel_rfl)))
                have HO189 := Aside0.mk (Q_HO189 (hon 11 (by kernel_rfl)))
                have HA_HO189 := Aside0.mk (Q_HA_HO189 (hon 11 (by kernel_rfl)))
                obtain ⟨c_, hv_⟩ := HA_HO189.out
                rw [hv_] at e17
                refine value_ (w1 := w') (v := .pointer (some (adz_v188.add (t190).toNat))) (by rfl) rfl ?_ ?_
                · go_simp
                  (try simp only [i64_w])
                  try rfl
                refine hK.out _ _ ⟨v172, adz_v172, v188, adz_v188, m4_, (.pointer (some (adz_v188.add (t190).toNat))), (by rw [ha.out]; exact putSel_upk 9 hb_ rfl rfl rfl), Q_BK167, fun h0_ => absurd ((hon 3 (by kernel_rfl)).symm.trans h0_) (by decide), Q_HK, Q_HB, Q_HO173, Q_HA_HO173, fun _ h1_ => absurd ((hon 6 (by kernel_rfl)).symm.trans h1_) (by decide), fun _ h1_ => absurd ((hon 8 (by kernel_rfl)).symm.trans h1_) (by decide), fun _ h1_ => absurd ((hon 10 (by kernel_rfl)).symm.trans h1_) (by decide), fun _ h1_ => absurd ((hon 13 (by kernel_rfl)).symm.trans h1_) (by decide), Q_HO189, Q_HA_HO189, Q_HI0_e13, Q_HI0_e17, fun h0_ => absurd ((hoff 19 (by kernel_rfl)).symm.trans h0_) (by decide), Q_X4_, fun _ => rfl⟩
              refine steps_cons ?_ ?_
              · rintro b a w' ⟨v172, adz_v172, v188, adz_v188, m4_, m14_, ha, Q_BK167, Q_HI0, Q_HK, Q_HB, Q_HO173, Q_HA_HO173, Q_HI0_e3, Q_HI0_e6, Q_HI0_e8, Q_HI0_e10, Q_HO189, Q_HA_HO189, Q_HI0_e13, Q_HI0_e17, Q_BK167_e19, Q_X4_, Q_X14_⟩ hb_ hon hoff
                refine ⟨_, rfl, fun K hK => ?_⟩
                have e20 : a.tmps[20]? = some (m14_) := by rw [ha]; exact putSel_on (e := (14, 20, m14_)) 9 rfl rfl (hon 14 (by kernel_rfl)) rfl
                rw [Q_X14_ (hon 14 (by kernel_rfl))] at e20
                replace ha := Aside0.mk ha
                have BK167 := Aside0.mk (Q_BK167 (hoff 19 (by kernel_rfl)))
                have HK := Aside0.mk Q_HK
                have HB := Aside0.mk Q_HB
                have HO173 := Aside0.mk (Q_HO173 (hon 1 (by kernel_rfl)))
                have HA_HO173 := Aside0.mk (Q_HA_HO173 (hon 1 (by kernel_rfl)))
                have HO189 := Aside0.mk (Q_HO189 (hon 11 (by kernel_rfl)))
                have HA_HO189 := Aside0.mk (Q_HA_HO189 (hon 11 (by kernel_rfl)))
                obtain ⟨c_, hv_⟩ := HA_HO189.out
                have hF_ := HO189.out
                rw [hv_] at hF_
                obtain ⟨ad_, ea_, hx_⟩ := Kd.at_int (Kd.R_reads' hF_).2.2 t190 (of_eq_true pi193) (of_eq_true qi193)
                cases ea_
                refine value_ (w1 := w') (v := .int .i64 (rd y187 t190)) (by rfl) rfl ?_ ?_
                · go_simp
                  (try simp only [i64_w])
                  try rfl
                refine hK.out _ _ ⟨v172, adz_v172, v188, adz_v188, m4_, m14_, (by rw [ha.out]; exact putSel_upk 10 hb_ rfl rfl rfl), Q_BK167, fun h0_ => absurd ((hon 3 (by kernel_rfl)).symm.trans h0_) (by decide), Q_HK, Q_HB, Q_HO173, Q_HA_HO173, fun _ h1_ => absurd ((hon 6 (by kernel_rfl)).symm.trans h1_) (by decide), fun _ h1_ => absurd ((hon 8 (by kernel_rfl)).symm.trans h1_) (by decide), fun _ h1_ => absurd ((hon 10 (by kernel_rfl)).symm.trans h1_) (by decide), fun _ h1_ => absurd ((hon 13 (by kernel_rfl)).symm.trans h1_) (by decide), Q_HO189, Q_HA_HO189, Q_HI0_e13, Q_HI0_e17, fun h0_ => absurd ((hoff 19 (by kernel_rfl)).symm.trans h0_) (by decide), Q_X4_, Q_X14_⟩
              refine steps_cons ?_ ?_
              · rintro b a w' ⟨v172, adz_v172, v188, adz_v188, m4_, m14_, ha, Q_BK167, Q_HI0, Q_HK, Q_HB, Q_HO173, Q_HA_HO173, Q_HI0_e3, Q_HI0_e6, Q_HI0_e8, Q_HI0_e10, Q_HO189, Q_HA_HO189, Q_HI0_e13, Q_HI0_e17, Q_BK167_e19, Q_X4_, Q_X14_⟩ hb_ hon hoff
                refine ⟨_, rfl, fun K hK => ?_⟩
                have e22 : a.tmps[22]? = some (.pointer (some ⟨g, 0, none⟩)) := by rw [ha]; exact (putSel_off rfl).trans rfl
                replace ha := Aside0.mk ha
                have BK167 := Aside0.mk (Q_BK167 (hoff 19 (by kernel_rfl)))
                have HK := Aside0.mk Q_HK
                have HB := Aside0.mk Q_HB
                have HO173 := Aside0.mk (Q_HO173 (hon 1 (by kernel_rfl)))
                have HA_HO173 := Aside0.mk (Q_HA_HO173 (hon 1 (by kernel_rfl)))
                have HI0 := Aside0.mk (Q_HI0_e13 (hon 13 (by kernel_rfl)) hb_)
                obtain ⟨co30, eo30⟩ := HA_HO173.out
                clear HA_HO173
                subst eo30
                refine goes_ Try.func57 (by kernel_rfl) rfl #[.pointer (some ⟨g, 0, none⟩)] (by rfl) rfl rfl (by first | (simp only [List.map_toArray, List.map_cons, List.map_nil, Act.eval, Array.getD_eq_getD_getElem?, Option.getD_some, e22]; done) | (simp only [List.map_toArray, List.map_cons, List.map_nil, Act.eval, Array.getD_eq_getD_getElem?, Option.getD_some, e22]; rfl)) ?_
                with_reducible refine (spec_l01Cur_word.calls k g s0_0 t191 t192 t194 t195 t196 w0 _ ?side1 ?side2 A17.out).mono ?_
                (case side1 => repeat (first | (with_reducible first | exact HI0.out | apply IsS60.alloc | apply IsS60.drewN | apply IsS60.drew | apply IsS60.set_1 | apply IsS60.set_2 | refine IsS60.far ?_ NB0_167.out _) | exact HI0.out))
                (case side2 => repeat (first | (with_reducible first | exact HB.out | apply below_alloc | apply pw_below_drewN | apply below_drew1 | refine below_set ?_ (IsS60.ge HI0.out) | refine below_set ?_ GE167.out) | exact HB.out))
                rintro e w31 ⟨rfl, hi, hb, hk⟩
                refine ⟨_, rfl, ?_⟩
                have n0_ := Aside0.mk (KeepBut.blk hk (g' := gb167) (o := .cells #[.bool false, .int .i64 0, .int .i64 0, .string (⟨#[]⟩ : ByteArray)] 25 (0, 0)) (by (with_reducible repeat (first | refine blk_drewN ?_ _ | refine blk_drew ?_ | refine blk_alloc ?_ _)); exact BK167.out) NB167_0.out (by simp))
                have n1_ := Aside0.mk (Kd.R_mono (Kd.R_keep (IsS60.apart (show IsS60 w0 _ g s0_0 t191 t192 from by repeat (first | (with_reducible first | exact HI0.out | apply IsS60.alloc | apply IsS60.drewN | apply IsS60.drew | apply IsS60.set_1 | apply IsS60.set_2 | refine IsS60.far ?_ NB0_167.out _) | exact HI0.out)) (by (with_reducible repeat (first | apply Kd.R_alloc | apply Kd.R_drewN | apply Kd.R_drew)); exact HO173.out) (by decide)) hk (fun _ h => h.2)) (fun _ h => h.1))
                have n2_ := Aside0.mk (KeepBut.trans (by repeat (first | (with_reducible first | exact HK.out | apply KeepBut.set_ | apply keep_drewN | apply keep_drew | apply keep_alloc | refine keep_far ?_ GW167.out _) | exact HK.out)) hk (.inl rfl))
                have n3_ := Aside0.mk (hb)
                have n4_ := Aside0.mk (hi)
                have z_HO189 := fun (h0_ : b 11 = true) => (show Kd.R (Kd.int .i64) 3 w31 w.heap.size (fun _ => True) v188 y187 from by first | exact (Kd.R_mono (Kd.R_keep (IsS60.apart (show IsS60 w0 _ g s0_0 t191 t192 from by repeat (first | (with_reducible first | exact HI0.out | apply IsS60.alloc | apply IsS60.drewN | apply IsS60.drew | apply IsS60.set_1 | apply IsS60.set_2 | refine IsS60.far ?_ NB0_167.out _) | exact HI0.out)) (by (with_reducible repeat (first | apply Kd.R_alloc | apply Kd.R_drewN | apply Kd.R_drew)); exact (Q_HO189 h0_)) (by decide)) hk (fun _ h => h.2)) (fun _ h => h.1)) | exact Kd.R_mono (Kd.R_mono (Kd.R_keep (IsS60.apart (show IsS60 w0 _ g s0_0 t191 t192 from by repeat (first | (with_reducible first | exact HI0.out | apply IsS60.alloc | apply IsS60.drewN | apply IsS60.drew | apply IsS60.set_1 | apply IsS60.set_2 | refine IsS60.far ?_ NB0_167.out _) | exact HI0.out)) (by (with_reducible repeat (first | apply Kd.R_alloc | apply Kd.R_drewN | apply Kd.R_drew)); exact (Q_HO189 h0_)) (by decide)) hk (fun _ h => h.2)) (fun _ h => h.1)) (fun _ h_ => by first | trivial | exact h_ | exact h_.1))
                clear BK167
                clear HO173
                clear HK
                clear HB
                clear HI0
                have BK167 := n0_
                have HO173 := n1_
                have HK := n2_
                have HB := n3_
                have HI0 := n4_
                clear n0_ n1_ n2_ n3_ n4_
                (try clear hb)
                (try clear hb2)
                (try clear hk)
                (try clear hi)
                refine hK.out _ _ ⟨.slice (some adz_v172) y171.length co30, adz_v172, v188, adz_v188, m4_, m14_, (by rw [ha.out]; exact putSel_upk 11 hb_ rfl rfl rfl), fun _ => (by (with_reducible repeat (first | refine blk_drewN ?_ _ | refine blk_drew ?_ | refine blk_alloc ?_ _)); exact BK167.out), fun h0_ => absurd ((hon 3 (by kernel_rfl)).symm.trans h0_) (by decide), (by repeat (first | (with_reducible first | exact HK.out | apply KeepBut.set_ | apply keep_drewN | apply keep_drew | apply keep_alloc | refine keep_far ?_ GW167.out _) | exact HK.out)), (by repeat (first | (with_reducible first | exact HB.out | apply below_alloc | apply pw_below_drewN | apply below_drew1 | refine below_set ?_ (IsS60.ge HI0.out) | refine below_set ?_ GE167.out) | exact HB.out)), fun _ => (by (with_reducible repeat (first | apply Kd.R_alloc | apply Kd.R_drewN | apply Kd.R_drew)); exact HO173.out), fun _ => ⟨_, rfl⟩, fun _ h1_ => absurd ((hon 6 (by kernel_rfl)).symm.trans h1_) (by decide), fun _ h1_ => absurd ((hon 8 (by kernel_rfl)).symm.trans h1_) (by decide), fun _ h1_ => absurd ((hon 10 (by kernel_rfl)).symm.trans h1_) (by decide), fun _ h1_ => absurd ((hon 13 (by kernel_rfl)).symm.trans h1_) (by decide), z_HO189, Q_HA_HO189, fun _ h1_ => absurd ((up_self b 17).symm.trans h1_) (by decide), fun _ => (by repeat (first | (with_reducible first | exact HI0.out | apply IsS60.alloc | apply IsS60.drewN | apply IsS60.drew | apply IsS60.set_1 | apply IsS60.set_2 | refine IsS60.far ?_ NB0_167.out _) | exact HI0.out)), fun h0_ => absurd ((hoff 19 (by kernel_rfl)).symm.trans h0_) (by decide), Q_X4_, Q_X14_⟩
              refine steps_cons ?_ ?_
              · rintro b a w' ⟨v172, adz_v172, v188, adz_v188, m4_, m14_, ha, Q_BK167, Q_HI0, Q_HK, Q_HB, Q_HO173, Q_HA_HO173, Q_HI0_e3, Q_HI0_e6, Q_HI0_e8, Q_HI0_e10, Q_HO189, Q_HA_HO189, Q_HI0_e13, Q_HI0_e17, Q_BK167_e19, Q_X4_, Q_X14_⟩ hb_ hon hoff
                refine ⟨_, rfl, fun K hK => ?_⟩
                have e12 : a.tmps[12]? = some (.int .i64 t178) := by rw [ha]; exact putSel_on (e := (6, 12, .int .i64 t178)) 4 rfl rfl (hon 6 (by kernel_rfl)) rfl
                have e21 : a.tmps[21]? = some (.int .i64 (rd y187 t190)) := by rw [ha]; exact putSel_on (e := (15, 21, .int .i64 (rd y187 t190))) 10 rfl rfl (hon 15 (by kernel_rfl)) rfl
                have e23 : a.tmps[23]? = some (.string t194) := by rw [ha]; exact putSel_on (e := (17, 23, .string t194)) 11 rfl rfl (hon 17 (by kernel_rfl)) rfl
                replace ha := Aside0.mk ha
                have BK167 := Aside0.mk (Q_BK167 (hoff 19 (by kernel_rfl)))
                have HK := Aside0.mk Q_HK
                have HB := Aside0.mk Q_HB
                have HO173 := Aside0.mk (Q_HO173 (hon 1 (by kernel_rfl)))
                have HA_HO173 := Aside0.mk (Q_HA_HO173 (hon 1 (by kernel_rfl)))
                have HO189 := Aside0.mk (Q_HO189 (hon 11 (by kernel_rfl)))
                have HA_HO189 := Aside0.mk (Q_HA_HO189 (hon 11 (by kernel_rfl)))
                have HI0 := Aside0.mk (Q_HI0_e17 (hon 17 (by kernel_rfl)))
                refine value_ (w1 := w') (v := .agg #[.bool true, .int .i64 t178, .int .i64 (rd y187 t190), .string t194]) (by rfl) rfl ?_ ?_
                · go_simp
                  (try simp only [i64_w])
                  try rfl
                refine hK.out _ _ ⟨v172, adz_v172, v188, adz_v188, m4_, m14_, (by rw [ha.out]; exact putSel_upk 12 hb_ rfl rfl rfl), Q_BK167, fun h0_ => absurd ((hon 3 (by kernel_rfl)).symm.trans h0_) (by decide), Q_HK, Q_HB, Q_HO173, Q_HA_HO173, fun _ h1_ => absurd ((hon 6 (by kernel_rfl)).symm.trans h1_) (by decide), fun _ h1_ => absurd ((hon 8 (by kernel_rfl)).symm.trans h1_) (by decide), fun _ h1_ => absurd ((hon 10 (by kernel_rfl)).symm.trans h1_) (by decide), fun _ h1_ => absurd ((hon 13 (by kernel_rfl)).symm.trans h1_) (by decide), Q_HO189, Q_HA_HO189, fun _ h1_ => absurd ((hon 17 (by kernel_rfl)).symm.trans h1_) (by decide), Q_HI0_e17, fun h0_ => absurd ((hoff 19 (by kernel_rfl)).symm.trans h0_) (by decide), Q_X4_, Q_X14_⟩
              refine steps_cons ?_ ?_
              · rintro b a w' ⟨v172, adz_v172, v188, adz_v188, m4_, m14_, ha, Q_BK167, Q_HI0, Q_HK, Q_HB, Q_HO173, Q_HA_HO173, Q_HI0_e3, Q_HI0_e6, Q_HI0_e8, Q_HI0_e10, Q_HO189, Q_HA_HO189, Q_HI0_e13, Q_HI0_e17, Q_BK167_e19, Q_X4_, Q_X14_⟩ hb_ hon hoff
                refine ⟨_, rfl, fun K hK => ?_⟩
                have e2 : a.tmps[2]? = some (.pointer (some ⟨gb167, 0, none⟩)) := by rw [ha]; exact (putSel_off rfl).trans rfl
                have e24 : a.tmps[24]? = some (.agg #[.bool true, .int .i64 t178, .int .i64 (rd y187 t190), .string t194]) := by rw [ha]; exact putSel_on (e := (18, 24, .agg #[.bool true, .int .i64 t178, .int .i64 (rd y187 t190), .string t194])) 12 rfl rfl (hon 18 (by kernel_rfl)) rfl
                replace ha := Aside0.mk ha
                have BK167 := Aside0.mk (Q_BK167 hb_)
                have HK := Aside0.mk Q_HK
                have HB := Aside0.mk Q_HB
                have HO173 := Aside0.mk (Q_HO173 (hon 1 (by kernel_rfl)))
                have HA_HO173 := Aside0.mk (Q_HA_HO173 (hon 1 (by kernel_rfl)))
                have HO189 := Aside0.mk (Q_HO189 (hon 11 (by kernel_rfl)))
                have HA_HO189 := Aside0.mk (Q_HA_HO189 (hon 11 (by kernel_rfl)))
                have HI0 := Aside0.mk (Q_HI0_e17 (hon 17 (by kernel_rfl)))
                obtain ⟨co34, eo34⟩ := HA_HO173.out
                clear HA_HO173
                subst eo34
                obtain ⟨co35, eo35⟩ := HA_HO189.out
                clear HA_HO189
                subst eo35
                have hs36 : w'.cell? ⟨gb167, 0, none⟩ = some (.bool false) := (blk_cell BK167.out 0).trans rfl
                have hfs36 := blk_frozen BK167.out 0
                have hs37 : w'.cell? ⟨gb167, 1, none⟩ = some (.int .i64 0) := (blk_cell BK167.out 1).trans rfl
                have hfs37 := blk_frozen BK167.out 1
                have hs38 : w'.cell? ⟨gb167, 2, none⟩ = some (.int .i64 0) := (blk_cell BK167.out 2).trans rfl
                have hfs38 := blk_frozen BK167.out 2
                have hs39 : w'.cell? ⟨gb167, 3, none⟩ = some (.string (⟨#[]⟩ : ByteArray)) := (blk_cell BK167.out 3).trans rfl
                have hfs39 := blk_frozen BK167.out 3
                refine skip_ (w1 := ?_) (by rfl) rfl ?_ ?_
                rotate_left
                · go_simp
                  rfl
                refine hK.out _ _ ⟨.slice (some adz_v172) y171.length co34, adz_v172, .slice (some adz_v188) y187.length co35, adz_v188, m4_, m14_, (by rw [ha.out]; exact putSel_none (v := undef) rfl), fun h0_ => absurd ((up_self b 19).symm.trans h0_) (by decide), fun h0_ => absurd ((hon 3 (by kernel_rfl)).symm.trans h0_) (by decide), (by repeat (first | (with_reducible first | exact HK.out | apply KeepBut.set_ | apply keep_drewN | apply keep_drew | apply keep_alloc | refine keep_far ?_ GW167.out _) | exact HK.out)), (by repeat (first | (with_reducible first | exact HB.out | apply below_alloc | apply pw_below_drewN | apply below_drew1 | refine below_set ?_ (IsS60.ge HI0.out) | refine below_set ?_ GE167.out) | exact HB.out)), fun _ => (by (with_reducible repeat (first | apply Kd.R_alloc | apply Kd.R_drewN | apply Kd.R_drew)); exact Kd.R_mono (Kd.R_far (p := ⟨gb167, 3, none⟩) (Kd.R_far (p := ⟨gb167, 2, none⟩) (Kd.R_far (p := ⟨gb167, 1, none⟩) (Kd.R_far (p := ⟨gb167, 0, none⟩) (Kd.R_types HO173.out BK167.out (by decide)) (fun _ hk => by first | exact hk.2 | trivial) (.bool true)) (fun _ hk => by first | exact hk.2 | trivial) (.int .i64 t178)) (fun _ hk => by first | exact hk.2 | trivial) (.int .i64 (rd y187 t190))) (fun _ hk => by first | exact hk.2 | trivial) (.string t194)) (fun _ hk => by first | exact hk.1 | trivial)), fun _ => ⟨_, rfl⟩, fun _ h1_ => absurd ((hon 6 (by kernel_rfl)).symm.trans h1_) (by decide), fun _ h1_ => absurd ((hon 8 (by kernel_rfl)).symm.trans h1_) (by decide), fun _ h1_ => absurd ((hon 10 (by kernel_rfl)).symm.trans h1_) (by decide), fun _ h1_ => absurd ((hon 13 (by kernel_rfl)).symm.trans h1_) (by decide), fun _ => (by (with_reducible repeat (first | apply Kd.R_alloc | apply Kd.R_drewN | apply Kd.R_drew)); exact Kd.R_mono (Kd.R_far (p := ⟨gb167, 3, none⟩) (Kd.R_far (p := ⟨gb167, 2, none⟩) (Kd.R_far (p := ⟨gb167, 1, none⟩) (Kd.R_far (p := ⟨gb167, 0, none⟩) (Kd.R_types HO189.out BK167.out (by decide)) (fun _ hk => by first | exact hk.2 | trivial) (.bool true)) (fun _ hk => by first | exact hk.2 | trivial) (.int .i64 t178)) (fun _ hk => by first | exact hk.2 | trivial) (.int .i64 (rd y187 t190))) (fun _ hk => by first | exact hk.2 | trivial) (.string t194)) (fun _ hk => by first | exact hk.1 | trivial)), fun _ => ⟨_, rfl⟩, fun _ h1_ => absurd ((hon 17 (by kernel_rfl)).symm.trans h1_) (by decide), fun _ => (by repeat (first | (with_reducible first | exact HI0.out | apply IsS60.alloc | apply IsS60.drewN | apply IsS60.drew | apply IsS60.set_1 | apply IsS60.set_2 | refine IsS60.far ?_ NB0_167.out _) | exact HI0.out)), fun _ => (by (with_reducible repeat (first | refine blk_drewN ?_ _ | refine blk_drew ?_ | refine blk_alloc ?_ _)); refine blk_put (cs := #[.bool true, .int .i64 t178, .int .i64 (rd y187 t190), .string (⟨#[]⟩ : ByteArray)]) ?_ 3 _ rfl; (with_reducible repeat (first | refine blk_drewN ?_ _ | refine blk_drew ?_ | refine blk_alloc ?_ _)); refine blk_put (cs := #[.bool true, .int .i64 t178, .int .i64 0, .string (⟨#[]⟩ : ByteArray)]) ?_ 2 _ rfl; (with_reducible repeat (first | refine blk_drewN ?_ _ | refine blk_drew ?_ | refine blk_alloc ?_ _)); refine blk_put (cs := #[.bool true, .int .i64 0, .int .i64 0, .string (⟨#[]⟩ : ByteArray)]) ?_ 1 _ rfl; (with_reducible repeat (first | refine blk_drewN ?_ _ | refine blk_drew ?_ | refine blk_alloc ?_ _)); refine blk_put (cs := #[.bool false, .int .i64 0, .int .i64 0, .string (⟨#[]⟩ : ByteArray)]) ?_ 0 _ rfl; (with_reducible repeat (first | refine blk_drewN ?_ _ | refine blk_drew ?_ | refine blk_alloc ?_ _)); exact BK167.out), Q_X4_, Q_X14_⟩
              exact steps_nil
            rintro b a w37 hall ⟨v172, adz_v172, v188, adz_v188, m4_, m14_, ha, Q_BK167, Q_HI0, Q_HK, Q_HB, Q_HO173, Q_HA_HO173, Q_HI0_e3, Q_HI0_e6, Q_HI0_e8, Q_HI0_e10, Q_HO189, Q_HA_HO189, Q_HI0_e13, Q_HI0_e17, Q_BK167_e19, Q_X4_, Q_X14_⟩
            clear BK167 HB HI0 HK
            have hb1_ := hall 1 (by kernel_rfl)
            have hb3_ := hall 3 (by kernel_rfl)
            have hb4_ := hall 4 (by kernel_rfl)
            have hb5_ := hall 5 (by kernel_rfl)
            have hb6_ := hall 6 (by kernel_rfl)
            have hb8_ := hall 8 (by kernel_rfl)
            have hb10_ := hall 10 (by kernel_rfl)
            have hb11_ := hall 11 (by kernel_rfl)
            have hb13_ := hall 13 (by kernel_rfl)
            have hb14_ := hall 14 (by kernel_rfl)
            have hb15_ := hall 15 (by kernel_rfl)
            have hb17_ := hall 17 (by kernel_rfl)
            have hb18_ := hall 18 (by kernel_rfl)
            have hb19_ := hall 19 (by kernel_rfl)
            subst ha
            obtain rfl := Q_X4_ hb4_
            obtain rfl := Q_X14_ hb14_
            simp only [putSel, hb1_, hb3_, hb4_, hb5_, hb6_, hb8_, hb10_, hb11_, hb13_, hb14_, hb15_, hb17_, hb18_, hb19_, if_true, Act.put, List.setIfInBounds_toArray, List.set_cons_zero, List.set_cons_succ]
            clear Q_BK167
            clear Q_HI0
            have HK := Aside0.mk Q_HK
            clear Q_HK
            have HB := Aside0.mk Q_HB
            clear Q_HB
            have HO173 := Aside0.mk (Q_HO173 hb1_)
            clear Q_HO173
            have HA_HO173 := Aside0.mk (Q_HA_HO173 hb1_)
            clear Q_HA_HO173
            clear Q_HI0_e3
            clear Q_HI0_e6
            clear Q_HI0_e8
            clear Q_HI0_e10
            have HO189 := Aside0.mk (Q_HO189 hb11_)
            clear Q_HO189
            have HA_HO189 := Aside0.mk (Q_HA_HO189 hb11_)
            clear Q_HA_HO189
            clear Q_HI0_e13
            have HI0 := Aside0.mk (Q_HI0_e17 hb17_)
            clear Q_HI0_e17
            have BK167 := Aside0.mk (Q_BK167_e19 hb19_)
            clear Q_BK167_e19
            clear hall hb1_ hb3_ hb4_ hb5_ hb6_ hb8_ hb10_ hb11_ hb13_ hb14_ hb15_ hb17_ hb18_ hb19_
            obtain ⟨co38, eo38⟩ := HA_HO173.out
            clear HA_HO173
            subst eo38
            obtain ⟨co39, eo39⟩ := HA_HO189.out
            clear HA_HO189
            subst eo39
            try go_wp2
            refine bodyPost_ret (results_cell_row rfl _ _ gb167 25 #[.bool true, .int .i64 t178, .int .i64 (rd y187 t190), .string t194] (0, 0) _ rfl (by (with_reducible repeat (first | refine blk_drewN ?_ _ | refine blk_drew ?_ | refine blk_alloc ?_ _)); exact BK167.out) Try.underlying25 rfl (by kernel_rfl)) rfl ?_
            exact ⟨by first | rfl | (simp [errW_none, errW_some] <;> rfl) | (simp [*, errW_none, errW_some] <;> rfl), by repeat (first | (with_reducible first | exact HI0.out | apply IsS60.alloc | apply IsS60.drewN | apply IsS60.drew | apply IsS60.set_1 | apply IsS60.set_2 | refine IsS60.far ?_ NB0_167.out _) | exact HI0.out), by repeat (first | (with_reducible first | exact HB.out | apply below_alloc | apply pw_below_drewN | apply below_drew1 | refine below_set ?_ (IsS60.ge HI0.out) | refine below_set ?_ GE167.out) | exact HB.out), by repeat (first | (with_reducible first | exact HK.out | apply KeepBut.set_ | apply keep_drewN | apply keep_drew | apply keep_alloc | refine keep_far ?_ GW167.out _) | exact HK.out)⟩
          · rw [if_neg c16] at H
            exact absurd H (by simp)
        · rw [if_neg c15] at H
          exact absurd H (by simp)
      · rw [if_neg c10] at H
        exact absurd H (by simp)
    · rw [if_neg c9] at H
      exact absurd H (by simp)

end Go.Proofs.Ytncnmgklnnpeeaa.PFnRanked

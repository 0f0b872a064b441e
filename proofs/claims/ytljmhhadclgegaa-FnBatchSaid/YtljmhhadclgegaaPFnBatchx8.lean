-- Laid by a program of this session: what the print of the kit writes, and contracts of the session where the print takes no function. Lean checks it.
import Derived.Test.YtljmhhadclgegaaPFnBatchx0
import Derived.Test.YtljmhhadclgegaaPFnBatchx7
namespace Go.Proofs.Ytljmhhadclgegaa.PFnBatch
open Go.RowKit Go.Proofs.YtljmhhadclgegaaW.PrintWords Go.Proofs.YtljmhhadclgegaaW.PrintLast Go.Proofs.YtljmhhadclgegaaW.PrintMore
attribute [local go_sem] max2_int min2_int max_two min_two max_three min_three max_four min_four   -- for this text's walks alone
set_option linter.unusedVariables false
set_option linter.unusedSimpArgs false

/-! ### spec_l01Cur_words: function 66 -/
def spec_l01Cur_words.l0 : Nat → List ByteArray → Int → List Int → Int → Int → Option (List ByteArray × Int × Int)
  | 0, _, _, _, _, _ => none
  | k + 1, x5, x6, x1000, x1001, x1002 => if x6 > 0 then ((spec_l01Cur_word.f k x1000 x1001 x1002).bind fun bt285 => ((spec_l01Cur_once.f x1000 bt285.2.1 bt285.2.2 6).bind fun bt288 => (if bt288.1 = true then (if x5.length < 8796093022208 then (spec_l01Cur_words.l0 k (x5 ++ [(⟨#[]⟩ : ByteArray)]) (wrap64 (x6 - 1)) x1000 bt288.2.1 bt288.2.2) else (none)) else (if x5.length < 8796093022208 then (spec_l01Cur_words.l0 k (x5 ++ [bt285.1]) (wrap64 (x6 - 1)) x1000 bt288.2.1 bt288.2.2) else (none))))) else (some (x5, x1001, x1002))
def spec_l01Cur_words.f (k : Nat) (s0_0 : List Int) (s0_1 : Int) (s0_2 : Int) (a1 : Int) : Option (List ByteArray × Int × Int) := (spec_l01Cur_size.f s0_0 s0_1 s0_2 a1).bind fun bt282 => (spec_l01Cur_words.l0 k (([] : List ByteArray)) bt282.1 s0_0 bt282.2.1 bt282.2.2)
theorem spec_l01Cur_words.mono_l : ∀ k, (∀ y0 y1 y2 y3 y4, LeO (spec_l01Cur_words.l0 k y0 y1 y2 y3 y4) (spec_l01Cur_words.l0 (k + 1) y0 y1 y2 y3 y4))
  | 0 => fun _ _ _ _ _ r h => by simp [spec_l01Cur_words.l0] at h
  | k + 1 => by
    have ih0 := spec_l01Cur_words.mono_l k
    · intro y0 y1 y2 y3 y4
      unfold spec_l01Cur_words.l0
      repeat' first | (with_reducible exact ih0 _ _ _ _ _) | (with_reducible exact spec_l01Cur_word.mono _ _ _ _) | (with_reducible exact LeO.refl _) | (with_reducible refine LeO.ite ?_ ?_) | (with_reducible refine LeO.bind ?_ (fun _ => ?_))
theorem spec_l01Cur_words.mono : ∀ a0 a1 a2 a3 k, LeO (spec_l01Cur_words.f k a0 a1 a2 a3) (spec_l01Cur_words.f (k + 1) a0 a1 a2 a3) := by
  intro a0 a1 a2 a3 k
  have ih0 := spec_l01Cur_words.mono_l k
  unfold spec_l01Cur_words.f
  repeat' first | (with_reducible exact ih0 _ _ _ _ _) | (with_reducible exact LeO.refl _) | (with_reducible refine LeO.bind ?_ (fun _ => ?_))
set_option maxHeartbeats 8000000 in
set_option maxRecDepth 100000 in
theorem spec_l01Cur_words.calls (k : Nat) (g : Nat) (s0_0 : List Int) (s0_1 : Int) (s0_2 : Int) (a1 : Int) (r1 : List ByteArray) (r2 : Int) (r3 : Int) (w0 w : World) (hI : IsS79 w0 w g s0_0 s0_1 s0_2) (hB : Below w0.heap.size w0 w) (h : spec_l01Cur_words.f k s0_0 s0_1 s0_2 a1 = some (r1, r2, r3)) :
    Calls Try.prog 66 #[.pointer (some ⟨g, 0, none⟩), .int .i64 a1] w fun e w' => ∃ v0_ : Value, e = .returned (v0_) ∧ Kd.R Kd.string 9 w' w.heap.size (fun _ => True) v0_ r1 ∧ IsS79 w0 w' g s0_0 r2 r3 ∧ Below w0.heap.size w0 w' ∧ KeepBut w w' g none := by
  have HI0 := Aside0.mk hI
  have HK := Aside0.mk (KeepBut.refl w g none)
  have HL := Aside0.mk hB.size
  clear hI
  have HW0 := Aside0.mk hB.size
  have HB := Aside0.mk hB
  clear hB
  have H : ((spec_l01Cur_size.f s0_0 s0_1 s0_2 a1).bind fun bt282 => (spec_l01Cur_words.l0 k (([] : List ByteArray)) bt282.1 s0_0 bt282.2.1 bt282.2.2)) = some (r1, r2, r3) := h
  clear h
  obtain ⟨y279, hy279⟩ : ∃ y_ : List ByteArray, y_ = (([] : List ByteArray)) := ⟨_, rfl⟩
  replace H : ((spec_l01Cur_size.f s0_0 s0_1 s0_2 a1).bind fun bt282 => (spec_l01Cur_words.l0 k y279 bt282.1 s0_0 bt282.2.1 bt282.2.2)) = some (r1, r2, r3) := by (rw [hy279]; with_reducible exact H)
  have Ny279 := Aside0.mk hy279
  clear hy279
  replace H := Option.bind_eq_some_iff.mp H
  obtain ⟨⟨t282, t283, t284⟩, A30, H⟩ := H
  replace H : (spec_l01Cur_words.l0 k y279 t282 s0_0 t283 t284) = some (r1, r2, r3) := H
  have A3 := Aside0.mk A30
  clear A30
  have H' := Aside0.mk H
  clear H
  go_enter Try.func66, Try.ntmps66
  go_wp2_with (first | ((with_reducible refine gate_dst (N := 8) rfl ?_); refine Kd.R_lit Kd.string _ 9 ?hg (N := 8) ?hd (xs := ([] : List ByteArray)) (inner := []) (ok := fun _ => True) (okp := fun _ => True) ?hr ?hp (fun _ hk => hk) trivial (Below.refl _ _) (Nat.le_refl _) (by simp) ?_; (case hd => rfl); (case hg => rfl); (case hr => (go_simp; done)); (case hp => exact (Reps.none _ _)); intro v280 w4 ho5 hb hg_ hnew_; clear hg_ hnew_; (rw [← Ny279.out] at ho5); have n0_ := Aside0.mk (Kd.R_lower ho5 (keep_size (w := w) (g := g) (row := none) (by repeat ((with_reducible exact HK.out))))); have n1_ := Aside0.mk (IsS79.below (by repeat ((with_reducible exact HI0.out))) hb); have n2_ := Aside0.mk (KeepBut.trans (by repeat ((with_reducible exact HK.out))) (KeepBut.of_below hb g none) (.inl rfl)); have n3_ := Aside0.mk (below_step (by repeat ((with_reducible exact HB.out))) hb); clear HI0; clear HK; clear HB; have HO281 := n0_; have HI0 := n1_; have HK := n2_; have HB := n3_; clear n0_ n1_ n2_ n3_; clear hb ho5) | ((with_reducible refine gate_callee (f := 45) rfl ?_); refine goesL_ (some 11) rfl rfl Try.func45 (by kernel_rfl) rfl #[.pointer (some ⟨g, 0, none⟩), .int .i64 a1] rfl (by (try simp only [List.map_toArray, List.map_cons, List.map_nil]); rfl) ?_; (with_reducible refine (spec_l01Cur_size.calls g s0_0 s0_1 s0_2 a1 t282 t283 t284 w0 _ ?side1 ?side2 A3.out).mono ?_); (case side1 => repeat ((with_reducible exact HI0.out))); (case side2 => repeat ((with_reducible exact HB.out))); rintro e w6 ⟨rfl, hi, hb, hk⟩; refine ⟨_, rfl, ?_⟩; have n0_ := Aside0.mk (Kd.R_mono (Kd.R_keep (IsS79.apart (show IsS79 w0 _ g s0_0 s0_1 s0_2 from by repeat ((with_reducible exact HI0.out))) (by (with_reducible repeat (first | apply Kd.R_alloc | apply Kd.R_drewN | apply Kd.R_drew)); exact HO281.out) (by decide)) hk (fun _ h => h.2)) (fun _ h => h.1)); have n1_ := Aside0.mk (KeepBut.trans (by repeat ((with_reducible exact HK.out))) hk (.inl rfl)); have n2_ := Aside0.mk (hb); have n3_ := Aside0.mk (hi); clear HO281; clear HK; clear HB; clear HI0; have HO281 := n0_; have HK := n1_; have HB := n2_; have HI0 := n3_; clear n0_ n1_ n2_ n3_; (try clear hb); (try clear hb2); (try clear hk); (try clear hi)))
  go_loopg [5, 6] k (fun kq v5 v6 w' => ∃ (x5_1 : List ByteArray) (x6_1 : Int) (x1001_1 : Int) (x1002_1 : Int), v6 = .int .i64 x6_1 ∧ Aside0 (spec_l01Cur_words.l0 kq x5_1 x6_1 s0_0 x1001_1 x1002_1 = some (r1, r2, r3)) ∧ Aside0 (kq ≤ k) ∧ Aside0 (Kd.R Kd.string 9 w' w.heap.size (fun _ => True) v5 x5_1) ∧ Aside0 (IsS79 w0 w' g s0_0 x1001_1 x1002_1) ∧ Aside0 (KeepBut w w' g none) ∧ Aside0 (Below w0.heap.size w0 w'))
  case atStart => exact ⟨(y279), (t282), (t283), (t284), (by rfl), H', ⟨Nat.le_refl _⟩, ⟨by (with_reducible repeat (first | apply Kd.R_alloc | apply Kd.R_drewN | apply Kd.R_drew)); exact HO281.out⟩, ⟨by repeat ((with_reducible exact HI0.out))⟩, ⟨by repeat ((with_reducible exact HK.out))⟩, ⟨by repeat ((with_reducible exact HB.out))⟩⟩
  case round =>
    clear H'
    try clear p2
    try clear c4
    try clear c6
    obtain ⟨x5_1, x6_1, x1001_1, x1002_1, rfl, HA, HK1, HO_5, HI0, HK, HB⟩ := hrel
    cases gk with
    | zero => exact absurd HA.out (by simp [spec_l01Cur_words.l0])
    | succ k1 =>
      have H := HA.out
      clear HA
      simp only [spec_l01Cur_words.l0] at H
      by_cases c7 : x6_1 > 0
      · rw [if_pos c7] at H
        have c7b0 : decide (0 < x6_1) = true := decide_eq_true c7
        clear c7
        replace H := Option.bind_eq_some_iff.mp H
        obtain ⟨⟨t285, t286, t287⟩, A80, H⟩ := H
        replace H : ((spec_l01Cur_once.f s0_0 t286 t287 6).bind fun bt288 => (if bt288.1 = true then (if x5_1.length < 8796093022208 then (spec_l01Cur_words.l0 k1 (x5_1 ++ [(⟨#[]⟩ : ByteArray)]) (wrap64 (x6_1 - 1)) s0_0 bt288.2.1 bt288.2.2) else (none)) else (if x5_1.length < 8796093022208 then (spec_l01Cur_words.l0 k1 (x5_1 ++ [t285]) (wrap64 (x6_1 - 1)) s0_0 bt288.2.1 bt288.2.2) else (none)))) = some (r1, r2, r3) := H
        have A8 := Aside0.mk A80
        clear A80
        replace H := Option.bind_eq_some_iff.mp H
        obtain ⟨⟨t288, t289, t290⟩, A90, H⟩ := H
        replace H : (if t288 = true then (if x5_1.length < 8796093022208 then (spec_l01Cur_words.l0 k1 (x5_1 ++ [(⟨#[]⟩ : ByteArray)]) (wrap64 (x6_1 - 1)) s0_0 t289 t290) else (none)) else (if x5_1.length < 8796093022208 then (spec_l01Cur_words.l0 k1 (x5_1 ++ [t285]) (wrap64 (x6_1 - 1)) s0_0 t289 t290) else (none))) = some (r1, r2, r3) := H
        have A9 := Aside0.mk A90
        clear A90
        by_cases c10 : t288 = true
        · subst c10
          have H1 : (if x5_1.length < 8796093022208 then (spec_l01Cur_words.l0 k1 (x5_1 ++ [(⟨#[]⟩ : ByteArray)]) (wrap64 (x6_1 - 1)) s0_0 t289 t290) else (none)) = some (r1, r2, r3) := by rw [if_pos rfl] at H; exact H
          clear H
          have H := H1
          clear H1
          by_cases c11 : x5_1.length < 8796093022208
          · rw [if_pos c11] at H
            have LMc11 := Aside0.mk c11
            clear c11
            obtain ⟨y291, hy291⟩ : ∃ y_ : List ByteArray, y_ = (x5_1 ++ [(⟨#[]⟩ : ByteArray)]) := ⟨_, rfl⟩
            replace H : (spec_l01Cur_words.l0 k1 y291 (wrap64 (x6_1 - 1)) s0_0 t289 t290) = some (r1, r2, r3) := by (rw [hy291]; with_reducible exact H)
            have Ny291 := Aside0.mk hy291
            clear hy291
            have H' := Aside0.mk H
            clear H
            go_wp2_with (first | ((with_reducible refine gate_callee (f := 68) rfl ?_); refine goesL_ (some 17) rfl rfl Try.func68 (by kernel_rfl) rfl #[.pointer (some ⟨g, 0, none⟩)] rfl (by (try simp only [List.map_toArray, List.map_cons, List.map_nil]); rfl) ?_; (with_reducible refine (spec_l01Cur_word.calls k1 g s0_0 x1001_1 x1002_1 t285 t286 t287 w0 _ ?side1 ?side2 A8.out).mono ?_); (case side1 => repeat ((with_reducible exact HI0.out))); (case side2 => repeat ((with_reducible exact HB.out))); rintro e w12 ⟨rfl, hi, hb, hk⟩; refine ⟨_, rfl, ?_⟩; have n0_ := Aside0.mk (Kd.R_mono (Kd.R_keep (IsS79.apart (show IsS79 w0 _ g s0_0 x1001_1 x1002_1 from by repeat ((with_reducible exact HI0.out))) (by (with_reducible repeat (first | apply Kd.R_alloc | apply Kd.R_drewN | apply Kd.R_drew)); exact HO_5.out) (by decide)) hk (fun _ h => h.2)) (fun _ h => h.1)); have n1_ := Aside0.mk (KeepBut.trans (by repeat ((with_reducible exact HK.out))) hk (.inl rfl)); have n2_ := Aside0.mk (hb); have n3_ := Aside0.mk (hi); clear HO_5; clear HK; clear HB; clear HI0; have HO_5 := n0_; have HK := n1_; have HB := n2_; have HI0 := n3_; clear n0_ n1_ n2_ n3_; (try clear hb); (try clear hb2); (try clear hk); (try clear hi)) | ((with_reducible refine gate_callee (f := 77) rfl ?_); refine goesL_ (some 19) rfl rfl Try.func77 (by kernel_rfl) rfl #[.pointer (some ⟨g, 0, none⟩), .int .i64 6] rfl (by (try simp only [List.map_toArray, List.map_cons, List.map_nil]); rfl) ?_; (with_reducible refine (spec_l01Cur_once.calls g s0_0 t286 t287 6 true t289 t290 w0 _ ?side1 ?side2 A9.out).mono ?_); (case side1 => repeat ((with_reducible exact HI0.out))); (case side2 => repeat ((with_reducible exact HB.out))); rintro e w13 ⟨rfl, hi, hb, hk⟩; refine ⟨_, rfl, ?_⟩; have n0_ := Aside0.mk (Kd.R_mono (Kd.R_keep (IsS79.apart (show IsS79 w0 _ g s0_0 t286 t287 from by repeat ((with_reducible exact HI0.out))) (by (with_reducible repeat (first | apply Kd.R_alloc | apply Kd.R_drewN | apply Kd.R_drew)); exact HO_5.out) (by decide)) hk (fun _ h => h.2)) (fun _ h => h.1)); have n1_ := Aside0.mk (KeepBut.trans (by repeat ((with_reducible exact HK.out))) hk (.inl rfl)); have n2_ := Aside0.mk (hb); have n3_ := Aside0.mk (hi); clear HO_5; clear HK; clear HB; clear HI0; have HO_5 := n0_; have HK := n1_; have HB := n2_; have HI0 := n3_; clear n0_ n1_ n2_ n3_; (try clear hb); (try clear hb2); (try clear hk); (try clear hi)) | ((with_reducible refine gate_builtin (b := .append) (xs := #[.tmp 20, .tmp 22]) rfl ?_); at_builtin; refine Kd.R_append Kd.string w.heap.size rfl (.tmp 20) (.tmp 22) 34 9 (.string ⟨#[]⟩) 16 rfl Try.underlying34 info9 rfl (by decide) (by omega) u5 x5_1 (⟨#[]⟩ : ByteArray) [.string (⟨#[]⟩ : ByteArray)] (fun _ => True) (fun _ => False) rfl rfl ?aP (fun _ hk => hk.elim) ?aF ?aO (Below.refl _ _) ?aS ?aL ?_; (case aP => exact rfl); (case aF => exact (fun _ _ => trivial)); (case aO => exact (by (with_reducible repeat (first | apply Kd.R_alloc | apply Kd.R_drewN | apply Kd.R_drew)); exact HO_5.out)); (case aS => exact (keep_size (w := w) (g := g) (row := none) (by repeat ((with_reducible exact HK.out))))); (case aL => have := LMc11.out; omega); intro v292 w14 ho hb hg hat; rw [← Ny291.out] at ho; have n0_ := Aside0.mk (IsS79.grown (by repeat ((with_reducible exact HI0.out))) hg (IsS79.own_ne HI0.out HO_5.out (by decide))); have n1_ := Aside0.mk (below_weaken (by repeat ((with_reducible exact HB.out))) HL.out hb); have n2_ := Aside0.mk (KeepBut.trans (by repeat ((with_reducible exact HK.out))) (KeepBut.of_grown hg g) (Kd.R_base2 HO_5.out)); have n3_ := Aside0.mk (ho); clear HI0; clear HB; clear HK; clear HO_5; have HI0 := n0_; have HB := n1_; have HK := n2_; have HO293 := n3_; clear n0_ n1_ n2_ n3_; clear ho hb hg hat))
            go_roundg k1
            case measure => have := HK1.out; omega
            case rel => exact ⟨(y291), (wrap64 (x6_1 - 1)), (t289), (t290), (by rfl), H', ⟨by have := HK1.out; omega⟩, ⟨by (with_reducible repeat (first | apply Kd.R_alloc | apply Kd.R_drewN | apply Kd.R_drew)); exact HO293.out⟩, ⟨by repeat ((with_reducible exact HI0.out))⟩, ⟨by repeat ((with_reducible exact HK.out))⟩, ⟨by repeat ((with_reducible exact HB.out))⟩⟩
          · rw [if_neg c11] at H
            exact absurd H (by simp)
        · replace c10 := Bool.eq_false_iff.mpr c10
          subst c10
          have H1 : (if x5_1.length < 8796093022208 then (spec_l01Cur_words.l0 k1 (x5_1 ++ [t285]) (wrap64 (x6_1 - 1)) s0_0 t289 t290) else (none)) = some (r1, r2, r3) := by rw [if_neg (show ¬ (false = true) by decide)] at H; exact H
          clear H
          have H := H1
          clear H1
          by_cases c15 : x5_1.length < 8796093022208
          · rw [if_pos c15] at H
            have LMc15 := Aside0.mk c15
            clear c15
            obtain ⟨y294, hy294⟩ : ∃ y_ : List ByteArray, y_ = (x5_1 ++ [t285]) := ⟨_, rfl⟩
            replace H : (spec_l01Cur_words.l0 k1 y294 (wrap64 (x6_1 - 1)) s0_0 t289 t290) = some (r1, r2, r3) := by (rw [hy294]; with_reducible exact H)
            have Ny294 := Aside0.mk hy294
            clear hy294
            have H' := Aside0.mk H
            clear H
            go_wp2_with (first | ((with_reducible refine gate_callee (f := 68) rfl ?_); refine goesL_ (some 17) rfl rfl Try.func68 (by kernel_rfl) rfl #[.pointer (some ⟨g, 0, none⟩)] rfl (by (try simp only [List.map_toArray, List.map_cons, List.map_nil]); rfl) ?_; (with_reducible refine (spec_l01Cur_word.calls k1 g s0_0 x1001_1 x1002_1 t285 t286 t287 w0 _ ?side1 ?side2 A8.out).mono ?_); (case side1 => repeat ((with_reducible exact HI0.out))); (case side2 => repeat ((with_reducible exact HB.out))); rintro e w16 ⟨rfl, hi, hb, hk⟩; refine ⟨_, rfl, ?_⟩; have n0_ := Aside0.mk (Kd.R_mono (Kd.R_keep (IsS79.apart (show IsS79 w0 _ g s0_0 x1001_1 x1002_1 from by repeat ((with_reducible exact HI0.out))) (by (with_reducible repeat (first | apply Kd.R_alloc | apply Kd.R_drewN | apply Kd.R_drew)); exact HO_5.out) (by decide)) hk (fun _ h => h.2)) (fun _ h => h.1)); have n1_ := Aside0.mk (KeepBut.trans (by repeat ((with_reducible exact HK.out))) hk (.inl rfl)); have n2_ := Aside0.mk (hb); have n3_ := Aside0.mk (hi); clear HO_5; clear HK; clear HB; clear HI0; have HO_5 := n0_; have HK := n1_; have HB := n2_; have HI0 := n3_; clear n0_ n1_ n2_ n3_; (try clear hb); (try clear hb2); (try clear hk); (try clear hi)) | ((with_reducible refine gate_callee (f := 77) rfl ?_); refine goesL_ (some 19) rfl rfl Try.func77 (by kernel_rfl) rfl #[.pointer (some ⟨g, 0, none⟩), .int .i64 6] rfl (by (try simp only [List.map_toArray, List.map_cons, List.map_nil]); rfl) ?_; (with_reducible refine (spec_l01Cur_once.calls g s0_0 t286 t287 6 false t289 t290 w0 _ ?side1 ?side2 A9.out).mono ?_); (case side1 => repeat ((with_reducible exact HI0.out))); (case side2 => repeat ((with_reducible exact HB.out))); rintro e w17 ⟨rfl, hi, hb, hk⟩; refine ⟨_, rfl, ?_⟩; have n0_ := Aside0.mk (Kd.R_mono (Kd.R_keep (IsS79.apart (show IsS79 w0 _ g s0_0 t286 t287 from by repeat ((with_reducible exact HI0.out))) (by (with_reducible repeat (first | apply Kd.R_alloc | apply Kd.R_drewN | apply Kd.R_drew)); exact HO_5.out) (by decide)) hk (fun _ h => h.2)) (fun _ h => h.1)); have n1_ := Aside0.mk (KeepBut.trans (by repeat ((with_reducible exact HK.out))) hk (.inl rfl)); have n2_ := Aside0.mk (hb); have n3_ := Aside0.mk (hi); clear HO_5; clear HK; clear HB; clear HI0; have HO_5 := n0_; have HK := n1_; have HB := n2_; have HI0 := n3_; clear n0_ n1_ n2_ n3_; (try clear hb); (try clear hb2); (try clear hk); (try clear hi)) | ((with_reducible refine gate_builtin (b := .append) (xs := #[.tmp 20, .tmp 22]) rfl ?_); at_builtin; refine Kd.R_append Kd.string w.heap.size rfl (.tmp 20) (.tmp 22) 34 9 (.string ⟨#[]⟩) 16 rfl Try.underlying34 info9 rfl (by decide) (by omega) u5 x5_1 t285 [.string t285] (fun _ => True) (fun _ => False) rfl rfl ?aP (fun _ hk => hk.elim) ?aF ?aO (Below.refl _ _) ?aS ?aL ?_; (case aP => exact rfl); (case aF => exact (fun _ _ => trivial)); (case aO => exact (by (with_reducible repeat (first | apply Kd.R_alloc | apply Kd.R_drewN | apply Kd.R_drew)); exact HO_5.out)); (case aS => exact (keep_size (w := w) (g := g) (row := none) (by repeat ((with_reducible exact HK.out))))); (case aL => have := LMc15.out; omega); intro v295 w18 ho hb hg hat; rw [← Ny294.out] at ho; have n0_ := Aside0.mk (IsS79.grown (by repeat ((with_reducible exact HI0.out))) hg (IsS79.own_ne HI0.out HO_5.out (by decide))); have n1_ := Aside0.mk (below_weaken (by repeat ((with_reducible exact HB.out))) HL.out hb); have n2_ := Aside0.mk (KeepBut.trans (by repeat ((with_reducible exact HK.out))) (KeepBut.of_grown hg g) (Kd.R_base2 HO_5.out)); have n3_ := Aside0.mk (ho); clear HI0; clear HB; clear HK; clear HO_5; have HI0 := n0_; have HB := n1_; have HK := n2_; have HO296 := n3_; clear n0_ n1_ n2_ n3_; clear ho hb hg hat))
            go_roundg k1
            case measure => have := HK1.out; omega
            case rel => exact ⟨(y294), (wrap64 (x6_1 - 1)), (t289), (t290), (by rfl), H', ⟨by have := HK1.out; omega⟩, ⟨by (with_reducible repeat (first | apply Kd.R_alloc | apply Kd.R_drewN | apply Kd.R_drew)); exact HO296.out⟩, ⟨by repeat ((with_reducible exact HI0.out))⟩, ⟨by repeat ((with_reducible exact HK.out))⟩, ⟨by repeat ((with_reducible exact HB.out))⟩⟩
          · rw [if_neg c15] at H
            exact absurd H (by simp)
      · rw [if_neg c7] at H
        have c7b0 : decide (0 < x6_1) = false := decide_eq_false c7
        clear c7
        simp only [Option.some.injEq, Prod.mk.injEq] at H
        obtain ⟨rfl, rfl, rfl⟩ := H
        go_wp2
        go_ret
        exact ⟨_, by rfl, by (with_reducible repeat (first | apply Kd.R_alloc | apply Kd.R_drewN | apply Kd.R_drew)); exact HO_5.out, by repeat ((with_reducible exact HI0.out)), by repeat ((with_reducible exact HB.out)), by repeat ((with_reducible exact HK.out))⟩

/-! ### spec_l01Cur_badWord: function 67 -/
def spec_l01Cur_badWord.f (k : Nat) (s0_0 : List Int) (s0_1 : Int) (s0_2 : Int) : Option (ByteArray × Int × Int) := (spec_l01Cur_word.f k s0_0 s0_1 s0_2).bind fun bt297 => ((spec_l01Cur_pick.f s0_0 bt297.2.1 bt297.2.2 9).bind fun bt300 => (if bt300.1 = 0 then ((spec_l01Cur_pick.f s0_0 bt300.2.1 bt300.2.2 (wrap64 ((bt297.1.size : Int) + 1))).bind fun bt303 => (if 0 ≤ bt303.1 then (if bt303.1 ≤ (bt297.1.size : Int) then ((some (([(⟨#[]⟩ : ByteArray), (⟨#[65]⟩ : ByteArray), (⟨#[45]⟩ : ByteArray), (⟨#[0]⟩ : ByteArray), (⟨#[122, 122]⟩ : ByteArray), (⟨#[123]⟩ : ByteArray)] : List ByteArray) : List ByteArray)).bind fun y306 => ((spec_l01Cur_pick.f s0_0 bt303.2.1 bt303.2.2 6).bind fun bt309 => (if 0 ≤ bt309.1 then (if bt309.1 < (y306.length : Int) then (if (bt297.1.extract 0 (bt303.1 : Int).toNat).size + (rdOf ByteArray.empty y306 bt309.1).size ≤ 9223372036854775807 then (if ((bt297.1.extract 0 (bt303.1 : Int).toNat) ++ (rdOf ByteArray.empty y306 bt309.1)).size + (bt297.1.extract (bt303.1 : Int).toNat bt297.1.size).size ≤ 9223372036854775807 then (some (((bt297.1.extract 0 (bt303.1 : Int).toNat) ++ (rdOf ByteArray.empty y306 bt309.1)) ++ (bt297.1.extract (bt303.1 : Int).toNat bt297.1.size), bt309.2.1, bt309.2.2)) else (none)) else (none)) else (none)) else (none)))) else (none)) else (none))) else (if bt300.1 = 1 then (some ((⟨#[]⟩ : ByteArray), bt300.2.1, bt300.2.2)) else (if bt300.1 = 2 then (if bt297.1.size + bt297.1.size ≤ 9223372036854775807 then ((spec_l01Cur_pick.f s0_0 bt300.2.1 bt300.2.2 33).bind fun bt313 => (if 0 ≤ bt313.1 then (if bt313.1 ≤ 32 then (if (bt297.1 ++ bt297.1).size + ((⟨#[97, 97, 97, 97, 97, 97, 97, 97, 97, 97, 97, 97, 97, 97, 97, 97, 97, 97, 97, 97, 97, 97, 97, 97, 97, 97, 97, 97, 97, 97, 97, 97]⟩ : ByteArray).extract 0 (bt313.1 : Int).toNat).size ≤ 9223372036854775807 then (some ((bt297.1 ++ bt297.1) ++ ((⟨#[97, 97, 97, 97, 97, 97, 97, 97, 97, 97, 97, 97, 97, 97, 97, 97, 97, 97, 97, 97, 97, 97, 97, 97, 97, 97, 97, 97, 97, 97, 97, 97]⟩ : ByteArray).extract 0 (bt313.1 : Int).toNat), bt313.2.1, bt313.2.2)) else (none)) else (none)) else (none))) else (none)) else (some (bt297.1, bt300.2.1, bt300.2.2))))))
theorem spec_l01Cur_badWord.mono : ∀ a0 a1 a2 k, LeO (spec_l01Cur_badWord.f k a0 a1 a2) (spec_l01Cur_badWord.f (k + 1) a0 a1 a2) := by
  intro a0 a1 a2 k
  unfold spec_l01Cur_badWord.f
  repeat' first | (with_reducible exact spec_l01Cur_word.mono _ _ _ _) | (with_reducible exact LeO.refl _) | (with_reducible refine LeO.bind ?_ (fun _ => ?_))
def spec_l01Cur_badWord.T5 : Bool × List (List Nat × List Nat) := (true, [([], []), ([], []), ([0, 1], [0, 1]), ([], []), ([], []), ([4], [4]), ([3, 5], [3, 5]), ([6], [6]), ([2, 7], [2, 7]), ([], []), ([], []), ([9, 10], [9, 10]), ([8, 11], [8, 11]), ([12, 5, 0, 1, 2, 3, 4, 5, 6, 7, 8, 9, 10, 11, 12], [12])])
def spec_l01Cur_badWord.B5 : List Nat := [0, 0, 3, 0, 0, 16, 56, 120, 255, 0, 0, 1536, 4095, 8191]
theorem spec_l01Cur_badWord.tab5 : rtab .any (opsOf Try.f67 5) = spec_l01Cur_badWord.T5 := by kernel_rfl
theorem spec_l01Cur_badWord.bits5 : waitsOk spec_l01Cur_badWord.T5.2 spec_l01Cur_badWord.B5 = true := by kernel_rfl
set_option maxHeartbeats 8000000 in
set_option maxRecDepth 100000 in
theorem spec_l01Cur_badWord.calls (k : Nat) (g : Nat) (s0_0 : List Int) (s0_1 : Int) (s0_2 : Int) (r1 : ByteArray) (r2 : Int) (r3 : Int) (w0 w : World) (hI : IsS79 w0 w g s0_0 s0_1 s0_2) (hB : Below w0.heap.size w0 w) (h : spec_l01Cur_badWord.f k s0_0 s0_1 s0_2 = some (r1, r2, r3)) :
    Calls Try.prog 67 #[.pointer (some ⟨g, 0, none⟩)] w fun e w' => e = .returned (.string r1) ∧ IsS79 w0 w' g s0_0 r2 r3 ∧ Below w0.heap.size w0 w' ∧ KeepBut w w' g none := by
 have HI0 := Aside0.mk hI
 have HK := Aside0.mk (KeepBut.refl w g none)
 have HL := Aside0.mk hB.size
 clear hI
 have HW0 := Aside0.mk hB.size
 have HB := Aside0.mk hB
 clear hB
 have H : ((spec_l01Cur_word.f k s0_0 s0_1 s0_2).bind fun bt297 => ((spec_l01Cur_pick.f s0_0 bt297.2.1 bt297.2.2 9).bind fun bt300 => (if bt300.1 = 0 then ((spec_l01Cur_pick.f s0_0 bt300.2.1 bt300.2.2 (wrap64 ((bt297.1.size : Int) + 1))).bind fun bt303 => (if 0 ≤ bt303.1 then (if bt303.1 ≤ (bt297.1.size : Int) then ((some (([(⟨#[]⟩ : ByteArray), (⟨#[65]⟩ : ByteArray), (⟨#[45]⟩ : ByteArray), (⟨#[0]⟩ : ByteArray), (⟨#[122, 122]⟩ : ByteArray), (⟨#[123]⟩ : ByteArray)] : List ByteArray) : List ByteArray)).bind fun y306 => ((spec_l01Cur_pick.f s0_0 bt303.2.1 bt303.2.2 6).bind fun bt309 => (if 0 ≤ bt309.1 then (if bt309.1 < (y306.length : Int) then (if (bt297.1.extract 0 (bt303.1 : Int).toNat).size + (rdOf ByteArray.empty y306 bt309.1).size ≤ 9223372036854775807 then (if ((bt297.1.extract 0 (bt303.1 : Int).toNat) ++ (rdOf ByteArray.empty y306 bt309.1)).size + (bt297.1.extract (bt303.1 : Int).toNat bt297.1.size).size ≤ 9223372036854775807 then (some (((bt297.1.extract 0 (bt303.1 : Int).toNat) ++ (rdOf ByteArray.empty y306 bt309.1)) ++ (bt297.1.extract (bt303.1 : Int).toNat bt297.1.size), bt309.2.1, bt309.2.2)) else (none)) else (none)) else (none)) else (none)))) else (none)) else (none))) else (if bt300.1 = 1 then (some ((⟨#[]⟩ : ByteArray), bt300.2.1, bt300.2.2)) else (if bt300.1 = 2 then (if bt297.1.size + bt297.1.size ≤ 9223372036854775807 then ((spec_l01Cur_pick.f s0_0 bt300.2.1 bt300.2.2 33).bind fun bt313 => (if 0 ≤ bt313.1 then (if bt313.1 ≤ 32 then (if (bt297.1 ++ bt297.1).size + ((⟨#[97, 97, 97, 97, 97, 97, 97, 97, 97, 97, 97, 97, 97, 97, 97, 97, 97, 97, 97, 97, 97, 97, 97, 97, 97, 97, 97, 97, 97, 97, 97, 97]⟩ : ByteArray).extract 0 (bt313.1 : Int).toNat).size ≤ 9223372036854775807 then (some ((bt297.1 ++ bt297.1) ++ ((⟨#[97, 97, 97, 97, 97, 97, 97, 97, 97, 97, 97, 97, 97, 97, 97, 97, 97, 97, 97, 97, 97, 97, 97, 97, 97, 97, 97, 97, 97, 97, 97, 97]⟩ : ByteArray).extract 0 (bt313.1 : Int).toNat), bt313.2.1, bt313.2.2)) else (none)) else (none)) else (none))) else (none)) else (some (bt297.1, bt300.2.1, bt300.2.2))))))) = some (r1, r2, r3) := h
 clear h
 replace H := Option.bind_eq_some_iff.mp H
 obtain ⟨⟨t297, t298, t299⟩, A20, H⟩ := H
 replace H : ((spec_l01Cur_pick.f s0_0 t298 t299 9).bind fun bt300 => (if bt300.1 = 0 then ((spec_l01Cur_pick.f s0_0 bt300.2.1 bt300.2.2 (wrap64 ((t297.size : Int) + 1))).bind fun bt303 => (if 0 ≤ bt303.1 then (if bt303.1 ≤ (t297.size : Int) then ((some (([(⟨#[]⟩ : ByteArray), (⟨#[65]⟩ : ByteArray), (⟨#[45]⟩ : ByteArray), (⟨#[0]⟩ : ByteArray), (⟨#[122, 122]⟩ : ByteArray), (⟨#[123]⟩ : ByteArray)] : List ByteArray) : List ByteArray)).bind fun y306 => ((spec_l01Cur_pick.f s0_0 bt303.2.1 bt303.2.2 6).bind fun bt309 => (if 0 ≤ bt309.1 then (if bt309.1 < (y306.length : Int) then (if (t297.extract 0 (bt303.1 : Int).toNat).size + (rdOf ByteArray.empty y306 bt309.1).size ≤ 9223372036854775807 then (if ((t297.extract 0 (bt303.1 : Int).toNat) ++ (rdOf ByteArray.empty y306 bt309.1)).size + (t297.extract (bt303.1 : Int).toNat t297.size).size ≤ 9223372036854775807 then (some (((t297.extract 0 (bt303.1 : Int).toNat) ++ (rdOf ByteArray.empty y306 bt309.1)) ++ (t297.extract (bt303.1 : Int).toNat t297.size), bt309.2.1, bt309.2.2)) else (none)) else (none)) else (none)) else (none)))) else (none)) else (none))) else (if bt300.1 = 1 then (some ((⟨#[]⟩ : ByteArray), bt300.2.1, bt300.2.2)) else (if bt300.1 = 2 then (if t297.size + t297.size ≤ 9223372036854775807 then ((spec_l01Cur_pick.f s0_0 bt300.2.1 bt300.2.2 33).bind fun bt313 => (if 0 ≤ bt313.1 then (if bt313.1 ≤ 32 then (if (t297 ++ t297).size + ((⟨#[97, 97, 97, 97, 97, 97, 97, 97, 97, 97, 97, 97, 97, 97, 97, 97, 97, 97, 97, 97, 97, 97, 97, 97, 97, 97, 97, 97, 97, 97, 97, 97]⟩ : ByteArray).extract 0 (bt313.1 : Int).toNat).size ≤ 9223372036854775807 then (some ((t297 ++ t297) ++ ((⟨#[97, 97, 97, 97, 97, 97, 97, 97, 97, 97, 97, 97, 97, 97, 97, 97, 97, 97, 97, 97, 97, 97, 97, 97, 97, 97, 97, 97, 97, 97, 97, 97]⟩ : ByteArray).extract 0 (bt313.1 : Int).toNat), bt313.2.1, bt313.2.2)) else (none)) else (none)) else (none))) else (none)) else (some (t297, bt300.2.1, bt300.2.2)))))) = some (r1, r2, r3) := H
 have A2 := Aside0.mk A20
 clear A20
 replace H := Option.bind_eq_some_iff.mp H
 obtain ⟨⟨t300, t301, t302⟩, A30, H⟩ := H
 replace H : (if t300 = 0 then ((spec_l01Cur_pick.f s0_0 t301 t302 (wrap64 ((t297.size : Int) + 1))).bind fun bt303 => (if 0 ≤ bt303.1 then (if bt303.1 ≤ (t297.size : Int) then ((some (([(⟨#[]⟩ : ByteArray), (⟨#[65]⟩ : ByteArray), (⟨#[45]⟩ : ByteArray), (⟨#[0]⟩ : ByteArray), (⟨#[122, 122]⟩ : ByteArray), (⟨#[123]⟩ : ByteArray)] : List ByteArray) : List ByteArray)).bind fun y306 => ((spec_l01Cur_pick.f s0_0 bt303.2.1 bt303.2.2 6).bind fun bt309 => (if 0 ≤ bt309.1 then (if bt309.1 < (y306.length : Int) then (if (t297.extract 0 (bt303.1 : Int).toNat).size + (rdOf ByteArray.empty y306 bt309.1).size ≤ 9223372036854775807 then (if ((t297.extract 0 (bt303.1 : Int).toNat) ++ (rdOf ByteArray.empty y306 bt309.1)).size + (t297.extract (bt303.1 : Int).toNat t297.size).size ≤ 9223372036854775807 then (some (((t297.extract 0 (bt303.1 : Int).toNat) ++ (rdOf ByteArray.empty y306 bt309.1)) ++ (t297.extract (bt303.1 : Int).toNat t297.size), bt309.2.1, bt309.2.2)) else (none)) else (none)) else (none)) else (none)))) else (none)) else (none))) else (if t300 = 1 then (some ((⟨#[]⟩ : ByteArray), t301, t302)) else (if t300 = 2 then (if t297.size + t297.size ≤ 9223372036854775807 then ((spec_l01Cur_pick.f s0_0 t301 t302 33).bind fun bt313 => (if 0 ≤ bt313.1 then (if bt313.1 ≤ 32 then (if (t297 ++ t297).size + ((⟨#[97, 97, 97, 97, 97, 97, 97, 97, 97, 97, 97, 97, 97, 97, 97, 97, 97, 97, 97, 97, 97, 97, 97, 97, 97, 97, 97, 97, 97, 97, 97, 97]⟩ : ByteArray).extract 0 (bt313.1 : Int).toNat).size ≤ 9223372036854775807 then (some ((t297 ++ t297) ++ ((⟨#[97, 97, 97, 97, 97, 97, 97, 97, 97, 97, 97, 97, 97, 97, 97, 97, 97, 97, 97, 97, 97, 97, 97, 97, 97, 97, 97, 97, 97, 97, 97, 97]⟩ : ByteArray).extract 0 (bt313.1 : Int).toNat), bt313.2.1, bt313.2.2)) else (none)) else (none)) else (none))) else (none)) else (some (t297, t301, t302))))) = some (r1, r2, r3) := H
 have A3 := Aside0.mk A30
 clear A30
 by_cases c4 : t300 = 0
 rotate_left
 ·
  rw [if_neg c4] at H
  have c4b0 : (t300 == 0) = false := beq_eq_false_iff_ne.mpr c4
  have c4b1 : (t300 != 0) = true := bne_iff_ne.mpr c4
  by_cases c25 : t300 = 1
  ·
   rw [if_pos c25] at H
   have c25b0 : (t300 == 1) = true := beq_iff_eq.mpr c25
   have c25b1 : (t300 != 1) = false := bne_eq_false_iff_eq.mpr c25
   clear c25
   simp only [Option.some.injEq, Prod.mk.injEq] at H
   obtain ⟨rfl, rfl, rfl⟩ := H
   go_enter Try.func67, Try.ntmps67
   go_wp2_with (first | ((with_reducible refine gate_callee (f := 68) rfl ?_); refine goesL_ (some 6) rfl rfl Try.func68 (by kernel_rfl) rfl #[.pointer (some ⟨g, 0, none⟩)] rfl (by (try simp only [List.map_toArray, List.map_cons, List.map_nil]); rfl) ?_; (with_reducible refine (spec_l01Cur_word.calls k g s0_0 s0_1 s0_2 t297 t298 t299 w0 _ ?side1 ?side2 A2.out).mono ?_); (case side1 => repeat ((with_reducible exact HI0.out))); (case side2 => repeat ((with_reducible exact HB.out))); rintro e w26 ⟨rfl, hi, hb, hk⟩; refine ⟨_, rfl, ?_⟩; have n0_ := Aside0.mk (KeepBut.trans (by repeat ((with_reducible exact HK.out))) hk (.inl rfl)); have n1_ := Aside0.mk (hb); have n2_ := Aside0.mk (hi); clear HK; clear HB; clear HI0; have HK := n0_; have HB := n1_; have HI0 := n2_; clear n0_ n1_ n2_; (try clear hb); (try clear hb2); (try clear hk); (try clear hi)) | ((with_reducible refine gate_callee (f := 44) rfl ?_); refine goesL_ (some 8) rfl rfl Try.func44 (by kernel_rfl) rfl #[.pointer (some ⟨g, 0, none⟩), .int .i64 9] rfl (by (try simp only [List.map_toArray, List.map_cons, List.map_nil]); rfl) ?_; (with_reducible refine (spec_l01Cur_pick.calls g s0_0 t298 t299 9 t300 t301 t302 w0 _ ?side1 ?side2 A3.out).mono ?_); (case side1 => repeat ((with_reducible exact HI0.out))); (case side2 => repeat ((with_reducible exact HB.out))); rintro e w27 ⟨rfl, hi, hb, hk⟩; refine ⟨_, rfl, ?_⟩; have n0_ := Aside0.mk (KeepBut.trans (by repeat ((with_reducible exact HK.out))) hk (.inl rfl)); have n1_ := Aside0.mk (hb); have n2_ := Aside0.mk (hi); clear HK; clear HB; clear HI0; have HK := n0_; have HB := n1_; have HI0 := n2_; clear n0_ n1_ n2_; (try clear hb); (try clear hb2); (try clear hk); (try clear hi)))
   go_ret
   exact ⟨by rfl, by repeat ((with_reducible exact HI0.out)), by repeat ((with_reducible exact HB.out)), by repeat ((with_reducible exact HK.out))⟩
  rw [if_neg c25] at H
  have c25b0 : (t300 == 1) = false := beq_eq_false_iff_ne.mpr c25
  have c25b1 : (t300 != 1) = true := bne_iff_ne.mpr c25
  by_cases c28 : t300 = 2
  rotate_left
  ·
   rw [if_neg c28] at H
   have c28b0 : (t300 == 2) = false := beq_eq_false_iff_ne.mpr c28
   have c28b1 : (t300 != 2) = true := bne_iff_ne.mpr c28
   simp only [Option.some.injEq, Prod.mk.injEq] at H
   obtain ⟨rfl, rfl, rfl⟩ := H
   go_enter Try.func67, Try.ntmps67
   go_wp2_with (first | ((with_reducible refine gate_callee (f := 68) rfl ?_); refine goesL_ (some 6) rfl rfl Try.func68 (by kernel_rfl) rfl #[.pointer (some ⟨g, 0, none⟩)] rfl (by (try simp only [List.map_toArray, List.map_cons, List.map_nil]); rfl) ?_; (with_reducible refine (spec_l01Cur_word.calls k g s0_0 s0_1 s0_2 t297 t298 t299 w0 _ ?side1 ?side2 A2.out).mono ?_); (case side1 => repeat ((with_reducible exact HI0.out))); (case side2 => repeat ((with_reducible exact HB.out))); rintro e w37 ⟨rfl, hi, hb, hk⟩; refine ⟨_, rfl, ?_⟩; have n0_ := Aside0.mk (KeepBut.trans (by repeat ((with_reducible exact HK.out))) hk (.inl rfl)); have n1_ := Aside0.mk (hb); have n2_ := Aside0.mk (hi); clear HK; clear HB; clear HI0; have HK := n0_; have HB := n1_; have HI0 := n2_; clear n0_ n1_ n2_; (try clear hb); (try clear hb2); (try clear hk); (try clear hi)) | ((with_reducible refine gate_callee (f := 44) rfl ?_); refine goesL_ (some 8) rfl rfl Try.func44 (by kernel_rfl) rfl #[.pointer (some ⟨g, 0, none⟩), .int .i64 9] rfl (by (try simp only [List.map_toArray, List.map_cons, List.map_nil]); rfl) ?_; (with_reducible refine (spec_l01Cur_pick.calls g s0_0 t298 t299 9 t300 t301 t302 w0 _ ?side1 ?side2 A3.out).mono ?_); (case side1 => repeat ((with_reducible exact HI0.out))); (case side2 => repeat ((with_reducible exact HB.out))); rintro e w38 ⟨rfl, hi, hb, hk⟩; refine ⟨_, rfl, ?_⟩; have n0_ := Aside0.mk (KeepBut.trans (by repeat ((with_reducible exact HK.out))) hk (.inl rfl)); have n1_ := Aside0.mk (hb); have n2_ := Aside0.mk (hi); clear HK; clear HB; clear HI0; have HK := n0_; have HB := n1_; have HI0 := n2_; clear n0_ n1_ n2_; (try clear hb); (try clear hb2); (try clear hk); (try clear hi)))
   go_ret
   exact ⟨by rfl, by repeat ((with_reducible exact HI0.out)), by repeat ((with_reducible exact HB.out)), by repeat ((with_reducible exact HK.out))⟩
  rw [if_pos c28] at H
  have c28b0 : (t300 == 2) = true := beq_iff_eq.mpr c28
  have c28b1 : (t300 != 2) = false := bne_eq_false_iff_eq.mpr c28
  clear c28
  by_cases c29 : t297.size + t297.size ≤ 9223372036854775807
  rotate_left
  ·
   rw [if_neg c29] at H
   exact absurd H (by simp)
  rw [if_pos c29] at H
  have c29b0 := eq_true c29
  have c29b1 : decide (t297.size + t297.size ≤ 9223372036854775807) = true := decide_eq_true c29
  try have c29b2 : (9223372036854775807 < t297.size + t297.size) = False := eq_false (Nat.not_lt.2 c29)
  replace H := Option.bind_eq_some_iff.mp H
  obtain ⟨⟨t313, t314, t315⟩, A300, H⟩ := H
  replace H : (if 0 ≤ t313 then (if t313 ≤ 32 then (if (t297 ++ t297).size + ((⟨#[97, 97, 97, 97, 97, 97, 97, 97, 97, 97, 97, 97, 97, 97, 97, 97, 97, 97, 97, 97, 97, 97, 97, 97, 97, 97, 97, 97, 97, 97, 97, 97]⟩ : ByteArray).extract 0 (t313 : Int).toNat).size ≤ 9223372036854775807 then (some ((t297 ++ t297) ++ ((⟨#[97, 97, 97, 97, 97, 97, 97, 97, 97, 97, 97, 97, 97, 97, 97, 97, 97, 97, 97, 97, 97, 97, 97, 97, 97, 97, 97, 97, 97, 97, 97, 97]⟩ : ByteArray).extract 0 (t313 : Int).toNat), t314, t315)) else (none)) else (none)) else (none)) = some (r1, r2, r3) := H
  have A30 := Aside0.mk A300
  clear A300
  by_cases c31 : 0 ≤ t313
  rotate_left
  ·
   rw [if_neg c31] at H
   exact absurd H (by simp)
  rw [if_pos c31] at H
  have c31b0 := eq_true c31
  have c31b1 : decide (0 ≤ t313) = true := decide_eq_true c31
  clear c31
  by_cases c32 : t313 ≤ 32
  rotate_left
  ·
   rw [if_neg c32] at H
   exact absurd H (by simp)
  rw [if_pos c32] at H
  have c32b0 := eq_true c32
  have c32b1 : decide (t313 ≤ 32) = true := decide_eq_true c32
  clear c32
  by_cases c33 : (t297 ++ t297).size + ((⟨#[97, 97, 97, 97, 97, 97, 97, 97, 97, 97, 97, 97, 97, 97, 97, 97, 97, 97, 97, 97, 97, 97, 97, 97, 97, 97, 97, 97, 97, 97, 97, 97]⟩ : ByteArray).extract 0 (t313 : Int).toNat).size ≤ 9223372036854775807
  ·
   rw [if_pos c33] at H
   have c33b0 := eq_true c33
   have c33b1 : decide ((t297 ++ t297).size + ((⟨#[97, 97, 97, 97, 97, 97, 97, 97, 97, 97, 97, 97, 97, 97, 97, 97, 97, 97, 97, 97, 97, 97, 97, 97, 97, 97, 97, 97, 97, 97, 97, 97]⟩ : ByteArray).extract 0 (t313 : Int).toNat).size ≤ 9223372036854775807) = true := decide_eq_true c33
   try have c33b2 : (9223372036854775807 < (t297 ++ t297).size + ((⟨#[97, 97, 97, 97, 97, 97, 97, 97, 97, 97, 97, 97, 97, 97, 97, 97, 97, 97, 97, 97, 97, 97, 97, 97, 97, 97, 97, 97, 97, 97, 97, 97]⟩ : ByteArray).extract 0 (t313 : Int).toNat).size) = False := eq_false (Nat.not_lt.2 c33)
   simp only [Option.some.injEq, Prod.mk.injEq] at H
   obtain ⟨rfl, rfl, rfl⟩ := H
   go_enter Try.func67, Try.ntmps67
   go_wp2_with (first | ((with_reducible refine gate_callee (f := 68) rfl ?_); refine goesL_ (some 6) rfl rfl Try.func68 (by kernel_rfl) rfl #[.pointer (some ⟨g, 0, none⟩)] rfl (by (try simp only [List.map_toArray, List.map_cons, List.map_nil]); rfl) ?_; (with_reducible refine (spec_l01Cur_word.calls k g s0_0 s0_1 s0_2 t297 t298 t299 w0 _ ?side1 ?side2 A2.out).mono ?_); (case side1 => repeat ((with_reducible exact HI0.out))); (case side2 => repeat ((with_reducible exact HB.out))); rintro e w34 ⟨rfl, hi, hb, hk⟩; refine ⟨_, rfl, ?_⟩; have n0_ := Aside0.mk (KeepBut.trans (by repeat ((with_reducible exact HK.out))) hk (.inl rfl)); have n1_ := Aside0.mk (hb); have n2_ := Aside0.mk (hi); clear HK; clear HB; clear HI0; have HK := n0_; have HB := n1_; have HI0 := n2_; clear n0_ n1_ n2_; (try clear hb); (try clear hb2); (try clear hk); (try clear hi)) | ((with_reducible refine gate_callee (f := 44) rfl ?_); refine goesL_ (some 8) rfl rfl Try.func44 (by kernel_rfl) rfl #[.pointer (some ⟨g, 0, none⟩), .int .i64 9] rfl (by (try simp only [List.map_toArray, List.map_cons, List.map_nil]); rfl) ?_; (with_reducible refine (spec_l01Cur_pick.calls g s0_0 t298 t299 9 t300 t301 t302 w0 _ ?side1 ?side2 A3.out).mono ?_); (case side1 => repeat ((with_reducible exact HI0.out))); (case side2 => repeat ((with_reducible exact HB.out))); rintro e w35 ⟨rfl, hi, hb, hk⟩; refine ⟨_, rfl, ?_⟩; have n0_ := Aside0.mk (KeepBut.trans (by repeat ((with_reducible exact HK.out))) hk (.inl rfl)); have n1_ := Aside0.mk (hb); have n2_ := Aside0.mk (hi); clear HK; clear HB; clear HI0; have HK := n0_; have HB := n1_; have HI0 := n2_; clear n0_ n1_ n2_; (try clear hb); (try clear hb2); (try clear hk); (try clear hi)) | ((with_reducible refine gate_callee (f := 44) rfl ?_); refine goesL_ (some 37) rfl rfl Try.func44 (by kernel_rfl) rfl #[.pointer (some ⟨g, 0, none⟩), .int .i64 33] rfl (by (try simp only [List.map_toArray, List.map_cons, List.map_nil]); rfl) ?_; (with_reducible refine (spec_l01Cur_pick.calls g s0_0 t301 t302 33 t313 t314 t315 w0 _ ?side1 ?side2 A30.out).mono ?_); (case side1 => repeat ((with_reducible exact HI0.out))); (case side2 => repeat ((with_reducible exact HB.out))); rintro e w36 ⟨rfl, hi, hb, hk⟩; refine ⟨_, rfl, ?_⟩; have n0_ := Aside0.mk (KeepBut.trans (by repeat ((with_reducible exact HK.out))) hk (.inl rfl)); have n1_ := Aside0.mk (hb); have n2_ := Aside0.mk (hi); clear HK; clear HB; clear HI0; have HK := n0_; have HB := n1_; have HI0 := n2_; clear n0_ n1_ n2_; (try clear hb); (try clear hb2); (try clear hk); (try clear hi)))
   go_ret
   exact ⟨by rfl, by repeat ((with_reducible exact HI0.out)), by repeat ((with_reducible exact HB.out)), by repeat ((with_reducible exact HK.out))⟩
  rw [if_neg c33] at H
  exact absurd H (by simp)
 rw [if_pos c4] at H
 have c4b0 : (t300 == 0) = true := beq_iff_eq.mpr c4
 have c4b1 : (t300 != 0) = false := bne_eq_false_iff_eq.mpr c4
 clear c4
 replace H := Option.bind_eq_some_iff.mp H
 obtain ⟨⟨t303, t304, t305⟩, A50, H⟩ := H
 replace H : (if 0 ≤ t303 then (if t303 ≤ (t297.size : Int) then ((some (([(⟨#[]⟩ : ByteArray), (⟨#[65]⟩ : ByteArray), (⟨#[45]⟩ : ByteArray), (⟨#[0]⟩ : ByteArray), (⟨#[122, 122]⟩ : ByteArray), (⟨#[123]⟩ : ByteArray)] : List ByteArray) : List ByteArray)).bind fun y306 => ((spec_l01Cur_pick.f s0_0 t304 t305 6).bind fun bt309 => (if 0 ≤ bt309.1 then (if bt309.1 < (y306.length : Int) then (if (t297.extract 0 (t303 : Int).toNat).size + (rdOf ByteArray.empty y306 bt309.1).size ≤ 9223372036854775807 then (if ((t297.extract 0 (t303 : Int).toNat) ++ (rdOf ByteArray.empty y306 bt309.1)).size + (t297.extract (t303 : Int).toNat t297.size).size ≤ 9223372036854775807 then (some (((t297.extract 0 (t303 : Int).toNat) ++ (rdOf ByteArray.empty y306 bt309.1)) ++ (t297.extract (t303 : Int).toNat t297.size), bt309.2.1, bt309.2.2)) else (none)) else (none)) else (none)) else (none)))) else (none)) else (none)) = some (r1, r2, r3) := H
 have A5 := Aside0.mk A50
 clear A50
 by_cases c6 : 0 ≤ t303
 rotate_left
 ·
  rw [if_neg c6] at H
  exact absurd H (by simp)
 rw [if_pos c6] at H
 have c6b0 := eq_true c6
 have c6b1 : decide (0 ≤ t303) = true := decide_eq_true c6
 clear c6
 by_cases c7 : t303 ≤ (t297.size : Int)
 rotate_left
 ·
  rw [if_neg c7] at H
  exact absurd H (by simp)
 rw [if_pos c7] at H
 have c7b0 := eq_true c7
 have c7b1 : decide (t303 ≤ (t297.size : Int)) = true := decide_eq_true c7
 clear c7
 obtain ⟨y306, hy306⟩ : ∃ y_ : List ByteArray, y_ = (([(⟨#[]⟩ : ByteArray), (⟨#[65]⟩ : ByteArray), (⟨#[45]⟩ : ByteArray), (⟨#[0]⟩ : ByteArray), (⟨#[122, 122]⟩ : ByteArray), (⟨#[123]⟩ : ByteArray)] : List ByteArray)) := ⟨_, rfl⟩
 replace H : ((spec_l01Cur_pick.f s0_0 t304 t305 6).bind fun bt309 => (if 0 ≤ bt309.1 then (if bt309.1 < (y306.length : Int) then (if (t297.extract 0 (t303 : Int).toNat).size + (rdOf ByteArray.empty y306 bt309.1).size ≤ 9223372036854775807 then (if ((t297.extract 0 (t303 : Int).toNat) ++ (rdOf ByteArray.empty y306 bt309.1)).size + (t297.extract (t303 : Int).toNat t297.size).size ≤ 9223372036854775807 then (some (((t297.extract 0 (t303 : Int).toNat) ++ (rdOf ByteArray.empty y306 bt309.1)) ++ (t297.extract (t303 : Int).toNat t297.size), bt309.2.1, bt309.2.2)) else (none)) else (none)) else (none)) else (none))) = some (r1, r2, r3) := by (have H2_ := (Option.bind_some _ _).symm.trans H; rw [hy306]; with_reducible exact H2_)
 have Ny306 := Aside0.mk hy306
 clear hy306
 replace H := Option.bind_eq_some_iff.mp H
 obtain ⟨⟨t309, t310, t311⟩, A80, H⟩ := H
 replace H : (if 0 ≤ t309 then (if t309 < (y306.length : Int) then (if (t297.extract 0 (t303 : Int).toNat).size + (rdOf ByteArray.empty y306 t309).size ≤ 9223372036854775807 then (if ((t297.extract 0 (t303 : Int).toNat) ++ (rdOf ByteArray.empty y306 t309)).size + (t297.extract (t303 : Int).toNat t297.size).size ≤ 9223372036854775807 then (some (((t297.extract 0 (t303 : Int).toNat) ++ (rdOf ByteArray.empty y306 t309)) ++ (t297.extract (t303 : Int).toNat t297.size), t310, t311)) else (none)) else (none)) else (none)) else (none)) = some (r1, r2, r3) := H
 have A8 := Aside0.mk A80
 clear A80
 by_cases c9 : 0 ≤ t309
 rotate_left
 ·
  rw [if_neg c9] at H
  exact absurd H (by simp)
 rw [if_pos c9] at H
 have c9b0 : decide (0 ≤ t309) = true := decide_eq_true c9
 clear c9
 by_cases c10 : t309 < (y306.length : Int)
 rotate_left
 ·
  rw [if_neg c10] at H
  exact absurd H (by simp)
 rw [if_pos c10] at H
 have c10b0 : decide (t309 < (y306.length : Int)) = true := decide_eq_true c10
 clear c10
 by_cases c11 : (t297.extract 0 (t303 : Int).toNat).size + (rdOf ByteArray.empty y306 t309).size ≤ 9223372036854775807
 rotate_left
 ·
  rw [if_neg c11] at H
  exact absurd H (by simp)
 rw [if_pos c11] at H
 have c11b0 := eq_true c11
 have c11b1 : decide ((t297.extract 0 (t303 : Int).toNat).size + (rdOf ByteArray.empty y306 t309).size ≤ 9223372036854775807) = true := decide_eq_true c11
 try have c11b2 : (9223372036854775807 < (t297.extract 0 (t303 : Int).toNat).size + (rdOf ByteArray.empty y306 t309).size) = False := eq_false (Nat.not_lt.2 c11)
 have c12b0 := eq_true (of_decide_eq_true (by (with_reducible assumption)) : 0 ≤ t303)
 have c13b0 := eq_true (of_decide_eq_true (by (with_reducible assumption)) : t303 ≤ (t297.size : Int))
 by_cases c14 : ((t297.extract 0 (t303 : Int).toNat) ++ (rdOf ByteArray.empty y306 t309)).size + (t297.extract (t303 : Int).toNat t297.size).size ≤ 9223372036854775807
 rotate_left
 ·
  rw [if_neg c14] at H
  exact absurd H (by simp)
 rw [if_pos c14] at H
 have c14b0 := eq_true c14
 have c14b1 : decide (((t297.extract 0 (t303 : Int).toNat) ++ (rdOf ByteArray.empty y306 t309)).size + (t297.extract (t303 : Int).toNat t297.size).size ≤ 9223372036854775807) = true := decide_eq_true c14
 try have c14b2 : (9223372036854775807 < ((t297.extract 0 (t303 : Int).toNat) ++ (rdOf ByteArray.empty y306 t309)).size + (t297.extract (t303 : Int).toNat t297.size).size) = False := eq_false (Nat.not_lt.2 c14)
 simp only [Option.some.injEq, Prod.mk.injEq] at H
 obtain ⟨rfl, rfl, rfl⟩ := H
 go_enter Try.func67, Try.ntmps67
 try go_wp2_with (first | ((with_reducible refine gate_callee (f := 68) rfl ?_); refine goesL_ (some 6) rfl rfl Try.func68 (by kernel_rfl) rfl #[.pointer (some ⟨g, 0, none⟩)] rfl (by (try simp only [List.map_toArray, List.map_cons, List.map_nil]); rfl) ?_; (with_reducible refine (spec_l01Cur_word.calls k g s0_0 s0_1 s0_2 t297 t298 t299 w0 _ ?side1 ?side2 A2.out).mono ?_); (case side1 => repeat ((with_reducible exact HI0.out))); (case side2 => repeat ((with_reducible exact HB.out))); rintro e w15 ⟨rfl, hi, hb, hk⟩; refine ⟨_, rfl, ?_⟩; have n0_ := Aside0.mk (KeepBut.trans (by repeat ((with_reducible exact HK.out))) hk (.inl rfl)); have n1_ := Aside0.mk (hb); have n2_ := Aside0.mk (hi); clear HK; clear HB; clear HI0; have HK := n0_; have HB := n1_; have HI0 := n2_; clear n0_ n1_ n2_; (try clear hb); (try clear hb2); (try clear hk); (try clear hi)) | ((with_reducible refine gate_callee (f := 44) rfl ?_); refine goesL_ (some 8) rfl rfl Try.func44 (by kernel_rfl) rfl #[.pointer (some ⟨g, 0, none⟩), .int .i64 9] rfl (by (try simp only [List.map_toArray, List.map_cons, List.map_nil]); rfl) ?_; (with_reducible refine (spec_l01Cur_pick.calls g s0_0 t298 t299 9 t300 t301 t302 w0 _ ?side1 ?side2 A3.out).mono ?_); (case side1 => repeat ((with_reducible exact HI0.out))); (case side2 => repeat ((with_reducible exact HB.out))); rintro e w16 ⟨rfl, hi, hb, hk⟩; refine ⟨_, rfl, ?_⟩; have n0_ := Aside0.mk (KeepBut.trans (by repeat ((with_reducible exact HK.out))) hk (.inl rfl)); have n1_ := Aside0.mk (hb); have n2_ := Aside0.mk (hi); clear HK; clear HB; clear HI0; have HK := n0_; have HB := n1_; have HI0 := n2_; clear n0_ n1_ n2_; (try clear hb); (try clear hb2); (try clear hk); (try clear hi)) | ((with_reducible refine gate_callee (f := 44) rfl ?_); refine goesL_ (some 15) rfl rfl Try.func44 (by kernel_rfl) rfl #[.pointer (some ⟨g, 0, none⟩), .int .i64 (wrap64 ((t297.size : Int) + 1))] rfl (by (try simp only [List.map_toArray, List.map_cons, List.map_nil]); rfl) ?_; (with_reducible refine (spec_l01Cur_pick.calls g s0_0 t301 t302 (wrap64 ((t297.size : Int) + 1)) t303 t304 t305 w0 _ ?side1 ?side2 A5.out).mono ?_); (case side1 => repeat ((with_reducible exact HI0.out))); (case side2 => repeat ((with_reducible exact HB.out))); rintro e w17 ⟨rfl, hi, hb, hk⟩; refine ⟨_, rfl, ?_⟩; have n0_ := Aside0.mk (KeepBut.trans (by repeat ((with_reducible exact HK.out))) hk (.inl rfl)); have n1_ := Aside0.mk (hb); have n2_ := Aside0.mk (hi); clear HK; clear HB; clear HI0; have HK := n0_; have HB := n1_; have HI0 := n2_; clear n0_ n1_ n2_; (try clear hb); (try clear hb2); (try clear hk); (try clear hi)))
 have pi312 : (0 ≤ (t309 : Int)) = True := eq_true (of_decide_eq_true (by (with_reducible assumption)))
 have qi312 : (t309 < (y306.length : Int)) = True := eq_true (of_decide_eq_true (by (with_reducible assumption)))
 replace HI0 := Aside0.mk (IsS79.drew HI0.out)
 replace HK := Aside0.mk (keep_drew HK.out)
 replace HB := Aside0.mk (below_drew1 HB.out)
 refine start_ (n := 14) (S := fun w' => True) (ds := []) #[false, false, false, false, false, false, false, false, false, false, false, false, false, false] (by kernel_rfl) rfl rfl trivial (fun hHeld => ?_); refine with_tabW spec_l01Cur_badWord.tab5 spec_l01Cur_badWord.bits5 (fun HT_ HW_ => ?_)
 generalize w17.drew = w18 at HI0 HK HB hHeld ⊢
 refine pure_ (i := 0) (N := some 16) (v := ?_) (a' := ?_) #[true, false, false, false, false, false, false, false, false, false, false, false, false, false] rfl rfl (any_of HT_.out (by kernel_rfl)) (fun _ _ _ h => h) (Or.inl ⟨by rfl, ?_⟩) ?_ ?_
 rotate_left
 ·
  intro w'
  go_simp
  with_reducible rfl
 rotate_left
 ·
  simp only [Act.put, List.setIfInBounds_toArray, List.set_cons_zero, List.set_cons_succ, i64_w, i32_w]
  rfl
 refine pure_ (i := 1) (N := some 17) (v := ?_) (a' := ?_) #[true, true, false, false, false, false, false, false, false, false, false, false, false, false] rfl rfl (any_of HT_.out (by kernel_rfl)) (fun _ _ _ h => h) (Or.inl ⟨by rfl, ?_⟩) ?_ ?_
 rotate_left
 ·
  intro w'
  go_simp
  with_reducible rfl
 rotate_left
 ·
  simp only [Act.put, List.setIfInBounds_toArray, List.set_cons_zero, List.set_cons_succ, i64_w, i32_w]
  rfl
 refine pure_ (i := 4) (N := some 20) (v := ?_) (a' := ?_) #[true, true, false, false, true, false, false, false, false, false, false, false, false, false] rfl rfl (any_of HT_.out (by kernel_rfl)) (fun _ _ _ h => h) (Or.inl ⟨by rfl, ?_⟩) ?_ ?_
 rotate_left
 ·
  intro w'
  go_simp
  with_reducible rfl
 rotate_left
 ·
  simp only [Act.put, List.setIfInBounds_toArray, List.set_cons_zero, List.set_cons_succ, i64_w, i32_w]
  rfl
 refine pure_ (i := 9) (N := some 25) (v := ?_) (a' := ?_) #[true, true, false, false, true, false, false, false, false, true, false, false, false, false] rfl rfl (any_of HT_.out (by kernel_rfl)) (fun _ _ _ h => h) (Or.inl ⟨by rfl, ?_⟩) ?_ ?_
 rotate_left
 ·
  intro w'
  go_simp
  with_reducible rfl
 rotate_left
 ·
  simp only [Act.put, List.setIfInBounds_toArray, List.set_cons_zero, List.set_cons_succ, i64_w, i32_w]
  rfl
 refine pure_ (i := 10) (N := some 26) (v := ?_) (a' := ?_) #[true, true, false, false, true, false, false, false, false, true, true, false, false, false] rfl rfl (any_of HT_.out (by kernel_rfl)) (fun _ _ _ h => h) (Or.inl ⟨by rfl, ?_⟩) ?_ ?_
 rotate_left
 ·
  intro w'
  go_simp
  with_reducible rfl
 rotate_left
 ·
  simp only [Act.put, List.setIfInBounds_toArray, List.set_cons_zero, List.set_cons_succ, i64_w, i32_w]
  rfl
 refine inv_at [2, 3, 5, 6, 7, 8, 11, 12, 13] (fun a0_ b a w' => ∃ (v307 : Value) (adz_v307 : Addr) (m6_ : Value), a = putSel a0_ b [(2, 18, .string (t297.extract 0 (t303 : Int).toNat)), (3, 19, v307), (5, 21, .int .i64 t309), (6, 22, m6_), (7, 23, .string (rdOf ByteArray.empty y306 t309)), (8, 24, .string ((t297.extract 0 (t303 : Int).toNat) ++ (rdOf ByteArray.empty y306 t309))), (11, 27, .string (t297.extract (t303 : Int).toNat t297.size)), (12, 28, .string (((t297.extract 0 (t303 : Int).toNat) ++ (rdOf ByteArray.empty y306 t309)) ++ (t297.extract (t303 : Int).toNat t297.size))), (13, 2, .string (((t297.extract 0 (t303 : Int).toNat) ++ (rdOf ByteArray.empty y306 t309)) ++ (t297.extract (t303 : Int).toNat t297.size)))] ∧ (b 5 = false → IsS79 w0 w' g s0_0 t304 t305) ∧ (KeepBut w w' g none) ∧ (Below w0.heap.size w0 w') ∧ (b 3 = true → Kd.R Kd.string 9 w' w.heap.size (fun _ => True) v307 y306) ∧ (b 3 = true → ∃ c_, (v307 : Value) = .slice (some adz_v307) y306.length c_) ∧ (b 5 = true → IsS79 w0 w' g s0_0 t310 t311) ∧ (b 6 = true → (m6_ : Value) = .pointer (some (adz_v307.add (t309).toNat)))) HT_.out HW_.out (by kernel_rfl) (by kernel_rfl) ?_ ?_ ?_
 ·
  exact ⟨.bool false, ⟨0, 0, none⟩, .bool false, by simp only [putSel, Bool.false_eq_true, if_false], fun _ => HI0.out, HK.out, HB.out, fun h_ => absurd h_ (by decide), fun h_ => absurd h_ (by decide), fun h_ => absurd h_ (by decide), fun h_ => absurd h_ (by decide)⟩
 ·
  skip
  clear HB HI0 HK
  refine steps_cons ?_ ?_
  ·
   rintro b a w' ⟨v307, adz_v307, m6_, ha, Q_HI0, Q_HK, Q_HB, Q_HO308, Q_HA_HO308, Q_HI0_e5, Q_X6_⟩ hb_ hon hoff
   refine ⟨_, rfl, fun K hK => ?_⟩
   have e16 : a.tmps[16]? = some (.string t297) := by rw [ha]; exact (putSel_off rfl).trans rfl
   have e17 : a.tmps[17]? = some (.int .i64 t303) := by rw [ha]; exact (putSel_off rfl).trans rfl
   replace ha := Aside0.mk ha
   have HK := Aside0.mk Q_HK
   have HB := Aside0.mk Q_HB
   refine value_ (w1 := w') (v := .string (t297.extract 0 (t303 : Int).toNat)) (by rfl) rfl ?_ ?_
   ·
    go_simp
    (try simp only [i64_w])
    try rfl
   refine hK.out _ _ ⟨v307, adz_v307, m6_, (by rw [ha.out]; exact putSel_upk 0 hb_ rfl rfl rfl), Q_HI0, Q_HK, Q_HB, Q_HO308, Q_HA_HO308, Q_HI0_e5, Q_X6_⟩
  refine steps_cons ?_ ?_
  ·
   rintro b a w' ⟨v307, adz_v307, m6_, ha, Q_HI0, Q_HK, Q_HB, Q_HO308, Q_HA_HO308, Q_HI0_e5, Q_X6_⟩ hb_ hon hoff
   refine ⟨_, rfl, fun K hK => ?_⟩
   replace ha := Aside0.mk ha
   have HK := Aside0.mk Q_HK
   have HB := Aside0.mk Q_HB
   refine Kd.R_lit_step Kd.string _ 9 ?hg (N := 19) ?hd (xs := ([(⟨#[]⟩ : ByteArray), (⟨#[65]⟩ : ByteArray), (⟨#[45]⟩ : ByteArray), (⟨#[0]⟩ : ByteArray), (⟨#[122, 122]⟩ : ByteArray), (⟨#[123]⟩ : ByteArray)] : List ByteArray)) (inner := [.string (⟨#[]⟩ : ByteArray), .string (⟨#[65]⟩ : ByteArray), .string (⟨#[45]⟩ : ByteArray), .string (⟨#[0]⟩ : ByteArray), .string (⟨#[122, 122]⟩ : ByteArray), .string (⟨#[123]⟩ : ByteArray)]) (ok := fun _ => True) (okp := fun _ => True) ?hr ?hp (fun _ hk => hk) trivial (Below.refl _ _) (Nat.le_refl _) (by simp) ?_; (case hd => rfl); (case hg => rfl); (case hr => (go_simp; done)); (case hp => exact (Reps.one (show Kd.M Kd.string _ _ _ (⟨#[]⟩ : ByteArray) [.string (⟨#[]⟩ : ByteArray)] from rfl) (Reps.one (show Kd.M Kd.string _ _ _ (⟨#[65]⟩ : ByteArray) [.string (⟨#[65]⟩ : ByteArray)] from rfl) (Reps.one (show Kd.M Kd.string _ _ _ (⟨#[45]⟩ : ByteArray) [.string (⟨#[45]⟩ : ByteArray)] from rfl) (Reps.one (show Kd.M Kd.string _ _ _ (⟨#[0]⟩ : ByteArray) [.string (⟨#[0]⟩ : ByteArray)] from rfl) (Reps.one (show Kd.M Kd.string _ _ _ (⟨#[122, 122]⟩ : ByteArray) [.string (⟨#[122, 122]⟩ : ByteArray)] from rfl) (Reps.one (show Kd.M Kd.string _ _ _ (⟨#[123]⟩ : ByteArray) [.string (⟨#[123]⟩ : ByteArray)] from rfl) (Reps.none _ _))))))))
   intro v307 w19 ho20 hb hg_ hnew_
   clear hg_ hnew_
   (rw [← Ny306.out] at ho20)
   have n0_ := Aside0.mk (Kd.R_lower ho20 (keep_size (w := w) (g := g) (row := none) (by repeat ((with_reducible exact HK.out)))))
   have n2_ := Aside0.mk (KeepBut.trans (by repeat ((with_reducible exact HK.out))) (KeepBut.of_below hb g none) (.inl rfl))
   have n3_ := Aside0.mk (below_step HB.out hb)
   have z_HI0 := fun (h0_ : b 5 = false) => (show IsS79 w0 w19 g s0_0 t304 t305 from by exact (IsS79.below (by repeat ((with_reducible exact (Q_HI0 h0_)))) hb))
   have z_HI0_e5 := fun (h0_ : b 5 = true) => (show IsS79 w0 w19 g s0_0 t310 t311 from by exact (IsS79.below (by repeat ((with_reducible exact (Q_HI0_e5 h0_)))) hb))
   clear HK
   clear HB
   have HO308 := n0_
   have HK := n2_
   have HB := n3_
   clear n0_ n2_ n3_
   clear hb ho20
   obtain ⟨Ao21, co21, eo21⟩ := Kd.R_slice HO308.out
   subst eo21
   obtain ⟨ado21, fo21, _⟩ := Kd.at_string (Kd.R_reads' HO308.out).2.2 0 (by decide) (by rw [Ny306.out]; simp)
   cases fo21
   refine hK.out _ _ ⟨.slice (some ado21) y306.length co21, ado21, m6_, (by rw [ha.out]; exact putSel_upk 1 hb_ rfl rfl rfl), z_HI0, (by repeat ((with_reducible exact HK.out))), HB.out, fun _ => (by (with_reducible repeat (first | apply Kd.R_alloc | apply Kd.R_drewN | apply Kd.R_drew)); exact HO308.out), fun _ => ⟨_, rfl⟩, z_HI0_e5, fun h0_ => absurd ((hoff 6 (by kernel_rfl)).symm.trans h0_) (by decide)⟩
  refine steps_cons ?_ ?_
  ·
   rintro b a w' ⟨v307, adz_v307, m6_, ha, Q_HI0, Q_HK, Q_HB, Q_HO308, Q_HA_HO308, Q_HI0_e5, Q_X6_⟩ hb_ hon hoff
   refine ⟨_, rfl, fun K hK => ?_⟩
   have e20 : a.tmps[20]? = some (.pointer (some ⟨g, 0, none⟩)) := by rw [ha]; exact (putSel_off rfl).trans rfl
   replace ha := Aside0.mk ha
   have HI0 := Aside0.mk (Q_HI0 hb_)
   have HK := Aside0.mk Q_HK
   have HB := Aside0.mk Q_HB
   refine goes_ Try.func44 (by kernel_rfl) rfl #[.pointer (some ⟨g, 0, none⟩), .int .i64 6] (by rfl) rfl rfl (by (simp only [List.map_toArray, List.map_cons, List.map_nil, Act.eval, Array.getD_eq_getD_getElem?, Option.getD_some, e20]; done)) ?_
   with_reducible refine (spec_l01Cur_pick.calls g s0_0 t304 t305 6 t309 t310 t311 w0 _ ?side1 ?side2 A8.out).mono ?_
   (case side1 => repeat ((with_reducible exact HI0.out)))
   (case side2 => repeat ((with_reducible exact HB.out)))
   rintro e w19 ⟨rfl, hi, hb, hk⟩
   refine ⟨_, rfl, ?_⟩
   have n0_ := Aside0.mk (KeepBut.trans (by repeat ((with_reducible exact HK.out))) hk (.inl rfl))
   have n1_ := Aside0.mk (hb)
   have n2_ := Aside0.mk (hi)
   have z_HO308 := fun (h0_ : b 3 = true) => (show Kd.R Kd.string 9 w19 w.heap.size (fun _ => True) v307 y306 from by exact (Kd.R_mono (Kd.R_keep (IsS79.apart (show IsS79 w0 _ g s0_0 t304 t305 from by repeat ((with_reducible exact HI0.out))) (by (with_reducible repeat (first | apply Kd.R_alloc | apply Kd.R_drewN | apply Kd.R_drew)); exact (Q_HO308 h0_)) (by decide)) hk (fun _ h => h.2)) (fun _ h => h.1)))
   clear HK
   clear HB
   clear HI0
   have HK := n0_
   have HB := n1_
   have HI0 := n2_
   clear n0_ n1_ n2_
   (try clear hb)
   (try clear hb2)
   (try clear hk)
   (try clear hi)
   refine hK.out _ _ ⟨v307, adz_v307, m6_, (by rw [ha.out]; exact putSel_upk 2 hb_ rfl rfl rfl), fun h0_ => absurd ((up_self b 5).symm.trans h0_) (by decide), (by repeat ((with_reducible exact HK.out))), HB.out, z_HO308, Q_HA_HO308, fun _ => (by repeat ((with_reducible exact HI0.out))), fun h0_ => absurd ((hoff 6 (by kernel_rfl)).symm.trans h0_) (by decide)⟩
  refine steps_cons ?_ ?_
  ·
   rintro b a w' ⟨v307, adz_v307, m6_, ha, Q_HI0, Q_HK, Q_HB, Q_HO308, Q_HA_HO308, Q_HI0_e5, Q_X6_⟩ hb_ hon hoff
   refine ⟨_, rfl, fun K hK => ?_⟩
   have e19 : a.tmps[19]? = some (v307) := by rw [ha]; exact putSel_on (e := (3, 19, v307)) 1 rfl rfl (hon 3 (by kernel_rfl)) rfl
   have e21 : a.tmps[21]? = some (.int .i64 t309) := by rw [ha]; exact putSel_on (e := (5, 21, .int .i64 t309)) 2 rfl rfl (hon 5 (by kernel_rfl)) rfl
   replace ha := Aside0.mk ha
   have HK := Aside0.mk Q_HK
   have HB := Aside0.mk Q_HB
   have HO308 := Aside0.mk (Q_HO308 (hon 3 (by kernel_rfl)))
   have HA_HO308 := Aside0.mk (Q_HA_HO308 (hon 3 (by kernel_rfl)))
   have HI0 := Aside0.mk (Q_HI0_e5 (hon 5 (by kernel_rfl)))
   obtain ⟨c_, hv_⟩ := HA_HO308.out
   rw [hv_] at e19
   refine value_ (w1 := w') (v := .pointer (some (adz_v307.add (t309).toNat))) (by rfl) rfl ?_ ?_
   ·
    go_simp
    (try simp only [i64_w])
    try rfl
   refine hK.out _ _ ⟨v307, adz_v307, (.pointer (some (adz_v307.add (t309).toNat))), (by rw [ha.out]; exact putSel_upk 3 hb_ rfl rfl rfl), fun h0_ => absurd ((hon 5 (by kernel_rfl)).symm.trans h0_) (by decide), Q_HK, Q_HB, Q_HO308, Q_HA_HO308, Q_HI0_e5, fun _ => rfl⟩
  refine steps_cons ?_ ?_
  ·
   rintro b a w' ⟨v307, adz_v307, m6_, ha, Q_HI0, Q_HK, Q_HB, Q_HO308, Q_HA_HO308, Q_HI0_e5, Q_X6_⟩ hb_ hon hoff
   refine ⟨_, rfl, fun K hK => ?_⟩
   have e22 : a.tmps[22]? = some (m6_) := by rw [ha]; exact putSel_on (e := (6, 22, m6_)) 3 rfl rfl (hon 6 (by kernel_rfl)) rfl
   rw [Q_X6_ (hon 6 (by kernel_rfl))] at e22
   replace ha := Aside0.mk ha
   have HK := Aside0.mk Q_HK
   have HB := Aside0.mk Q_HB
   have HO308 := Aside0.mk (Q_HO308 (hon 3 (by kernel_rfl)))
   have HA_HO308 := Aside0.mk (Q_HA_HO308 (hon 3 (by kernel_rfl)))
   have HI0 := Aside0.mk (Q_HI0_e5 (hon 5 (by kernel_rfl)))
   obtain ⟨c_, hv_⟩ := HA_HO308.out
   have hF_ := HO308.out
   rw [hv_] at hF_
   obtain ⟨ad_, ea_, hx_⟩ := Kd.at_string (Kd.R_reads' hF_).2.2 t309 (of_eq_true pi312) (of_eq_true qi312)
   cases ea_
   refine value_ (w1 := w') (v := .string (rdOf ByteArray.empty y306 t309)) (by rfl) rfl ?_ ?_
   ·
    go_simp
    (try simp only [i64_w])
    try rfl
   refine hK.out _ _ ⟨v307, adz_v307, m6_, (by rw [ha.out]; exact putSel_upk 4 hb_ rfl rfl rfl), fun h0_ => absurd ((hon 5 (by kernel_rfl)).symm.trans h0_) (by decide), Q_HK, Q_HB, Q_HO308, Q_HA_HO308, Q_HI0_e5, Q_X6_⟩
  refine steps_cons ?_ ?_
  ·
   rintro b a w' ⟨v307, adz_v307, m6_, ha, Q_HI0, Q_HK, Q_HB, Q_HO308, Q_HA_HO308, Q_HI0_e5, Q_X6_⟩ hb_ hon hoff
   refine ⟨_, rfl, fun K hK => ?_⟩
   have e18 : a.tmps[18]? = some (.string (t297.extract 0 (t303 : Int).toNat)) := by rw [ha]; exact putSel_on (e := (2, 18, .string (t297.extract 0 (t303 : Int).toNat))) 0 rfl rfl (hon 2 (by kernel_rfl)) rfl
   have e23 : a.tmps[23]? = some (.string (rdOf ByteArray.empty y306 t309)) := by rw [ha]; exact putSel_on (e := (7, 23, .string (rdOf ByteArray.empty y306 t309))) 4 rfl rfl (hon 7 (by kernel_rfl)) rfl
   replace ha := Aside0.mk ha
   have HK := Aside0.mk Q_HK
   have HB := Aside0.mk Q_HB
   have HO308 := Aside0.mk (Q_HO308 (hon 3 (by kernel_rfl)))
   have HA_HO308 := Aside0.mk (Q_HA_HO308 (hon 3 (by kernel_rfl)))
   have HI0 := Aside0.mk (Q_HI0_e5 (hon 5 (by kernel_rfl)))
   refine value_ (w1 := w') (v := .string ((t297.extract 0 (t303 : Int).toNat) ++ (rdOf ByteArray.empty y306 t309))) (by rfl) rfl ?_ ?_
   ·
    go_simp
    (try simp only [i64_w])
    try rfl
    (try ((have h1_ := c11; have h2_ := of_eq_true c7b0; simp only [ByteArray.size_append, ByteArray.size_extract] at h1_; omega)))
   refine hK.out _ _ ⟨v307, adz_v307, m6_, (by rw [ha.out]; exact putSel_upk 5 hb_ rfl rfl rfl), fun h0_ => absurd ((hon 5 (by kernel_rfl)).symm.trans h0_) (by decide), Q_HK, Q_HB, Q_HO308, Q_HA_HO308, Q_HI0_e5, Q_X6_⟩
  refine steps_cons ?_ ?_
  ·
   rintro b a w' ⟨v307, adz_v307, m6_, ha, Q_HI0, Q_HK, Q_HB, Q_HO308, Q_HA_HO308, Q_HI0_e5, Q_X6_⟩ hb_ hon hoff
   refine ⟨_, rfl, fun K hK => ?_⟩
   have e25 : a.tmps[25]? = some (.string t297) := by rw [ha]; exact (putSel_off rfl).trans rfl
   have e26 : a.tmps[26]? = some (.int .i64 t303) := by rw [ha]; exact (putSel_off rfl).trans rfl
   replace ha := Aside0.mk ha
   have HK := Aside0.mk Q_HK
   have HB := Aside0.mk Q_HB
   refine value_ (w1 := w') (v := .string (t297.extract (t303 : Int).toNat t297.size)) (by rfl) rfl ?_ ?_
   ·
    go_simp
    (try simp only [i64_w])
    try rfl
   refine hK.out _ _ ⟨v307, adz_v307, m6_, (by rw [ha.out]; exact putSel_upk 6 hb_ rfl rfl rfl), Q_HI0, Q_HK, Q_HB, Q_HO308, Q_HA_HO308, Q_HI0_e5, Q_X6_⟩
  refine steps_cons ?_ ?_
  ·
   rintro b a w' ⟨v307, adz_v307, m6_, ha, Q_HI0, Q_HK, Q_HB, Q_HO308, Q_HA_HO308, Q_HI0_e5, Q_X6_⟩ hb_ hon hoff
   refine ⟨_, rfl, fun K hK => ?_⟩
   have e24 : a.tmps[24]? = some (.string ((t297.extract 0 (t303 : Int).toNat) ++ (rdOf ByteArray.empty y306 t309))) := by rw [ha]; exact putSel_on (e := (8, 24, .string ((t297.extract 0 (t303 : Int).toNat) ++ (rdOf ByteArray.empty y306 t309)))) 5 rfl rfl (hon 8 (by kernel_rfl)) rfl
   have e27 : a.tmps[27]? = some (.string (t297.extract (t303 : Int).toNat t297.size)) := by rw [ha]; exact putSel_on (e := (11, 27, .string (t297.extract (t303 : Int).toNat t297.size))) 6 rfl rfl (hon 11 (by kernel_rfl)) rfl
   replace ha := Aside0.mk ha
   have HK := Aside0.mk Q_HK
   have HB := Aside0.mk Q_HB
   have HO308 := Aside0.mk (Q_HO308 (hon 3 (by kernel_rfl)))
   have HA_HO308 := Aside0.mk (Q_HA_HO308 (hon 3 (by kernel_rfl)))
   have HI0 := Aside0.mk (Q_HI0_e5 (hon 5 (by kernel_rfl)))
   refine value_ (w1 := w') (v := .string (((t297.extract 0 (t303 : Int).toNat) ++ (rdOf ByteArray.empty y306 t309)) ++ (t297.extract (t303 : Int).toNat t297.size))) (by rfl) rfl ?_ ?_
   ·
    go_simp
    (try simp only [i64_w])
    try rfl
    (try ((have h1_ := c14; have h2_ := of_eq_true c7b0; simp only [ByteArray.size_append, ByteArray.size_extract] at h1_; omega)))
   refine hK.out _ _ ⟨v307, adz_v307, m6_, (by rw [ha.out]; exact putSel_upk 7 hb_ rfl rfl rfl), fun h0_ => absurd ((hon 5 (by kernel_rfl)).symm.trans h0_) (by decide), Q_HK, Q_HB, Q_HO308, Q_HA_HO308, Q_HI0_e5, Q_X6_⟩
  refine steps_cons ?_ ?_
  ·
   rintro b a w' ⟨v307, adz_v307, m6_, ha, Q_HI0, Q_HK, Q_HB, Q_HO308, Q_HA_HO308, Q_HI0_e5, Q_X6_⟩ hb_ hon hoff
   refine ⟨_, rfl, fun K hK => ?_⟩
   have e28 : a.tmps[28]? = some (.string (((t297.extract 0 (t303 : Int).toNat) ++ (rdOf ByteArray.empty y306 t309)) ++ (t297.extract (t303 : Int).toNat t297.size))) := by rw [ha]; exact putSel_on (e := (12, 28, .string (((t297.extract 0 (t303 : Int).toNat) ++ (rdOf ByteArray.empty y306 t309)) ++ (t297.extract (t303 : Int).toNat t297.size)))) 7 rfl rfl (hon 12 (by kernel_rfl)) rfl
   replace ha := Aside0.mk ha
   have HK := Aside0.mk Q_HK
   have HB := Aside0.mk Q_HB
   have HO308 := Aside0.mk (Q_HO308 (hon 3 (by kernel_rfl)))
   have HA_HO308 := Aside0.mk (Q_HA_HO308 (hon 3 (by kernel_rfl)))
   have HI0 := Aside0.mk (Q_HI0_e5 (hon 5 (by kernel_rfl)))
   refine value_ (w1 := w') (v := .string (((t297.extract 0 (t303 : Int).toNat) ++ (rdOf ByteArray.empty y306 t309)) ++ (t297.extract (t303 : Int).toNat t297.size))) (by rfl) rfl ?_ ?_
   ·
    go_simp
    (try simp only [i64_w])
    try rfl
    (try (first | (have h1_ := c29; have h2_ := of_eq_true c7b0; simp only [ByteArray.size_append, ByteArray.size_extract] at h1_; omega) | (have h1_ := c33; have h2_ := of_eq_true c7b0; simp only [ByteArray.size_append, ByteArray.size_extract] at h1_; omega) | (have h1_ := c11; have h2_ := of_eq_true c7b0; simp only [ByteArray.size_append, ByteArray.size_extract] at h1_; omega) | (have h1_ := c14; have h2_ := of_eq_true c7b0; simp only [ByteArray.size_append, ByteArray.size_extract] at h1_; omega)))
   refine hK.out _ _ ⟨v307, adz_v307, m6_, (by rw [ha.out]; exact putSel_upk 8 hb_ rfl rfl rfl), fun h0_ => absurd ((hon 5 (by kernel_rfl)).symm.trans h0_) (by decide), Q_HK, Q_HB, Q_HO308, Q_HA_HO308, Q_HI0_e5, Q_X6_⟩
  exact steps_nil
 rintro b a w23 hall ⟨v307, adz_v307, m6_, ha, Q_HI0, Q_HK, Q_HB, Q_HO308, Q_HA_HO308, Q_HI0_e5, Q_X6_⟩
 clear HB HI0 HK
 have hb2_ := hall 2 (by kernel_rfl)
 have hb3_ := hall 3 (by kernel_rfl)
 have hb5_ := hall 5 (by kernel_rfl)
 have hb6_ := hall 6 (by kernel_rfl)
 have hb7_ := hall 7 (by kernel_rfl)
 have hb8_ := hall 8 (by kernel_rfl)
 have hb11_ := hall 11 (by kernel_rfl)
 have hb12_ := hall 12 (by kernel_rfl)
 have hb13_ := hall 13 (by kernel_rfl)
 subst ha
 obtain rfl := Q_X6_ hb6_
 simp only [putSel, hb2_, hb3_, hb5_, hb6_, hb7_, hb8_, hb11_, hb12_, hb13_, if_true, Act.put, List.setIfInBounds_toArray, List.set_cons_zero, List.set_cons_succ]
 clear Q_HI0
 have HK := Aside0.mk Q_HK
 clear Q_HK
 have HB := Aside0.mk Q_HB
 clear Q_HB
 have HO308 := Aside0.mk (Q_HO308 hb3_)
 clear Q_HO308
 have HA_HO308 := Aside0.mk (Q_HA_HO308 hb3_)
 clear Q_HA_HO308
 have HI0 := Aside0.mk (Q_HI0_e5 hb5_)
 clear Q_HI0_e5
 clear hall hb2_ hb3_ hb5_ hb6_ hb7_ hb8_ hb11_ hb12_ hb13_
 obtain ⟨co24, eo24⟩ := HA_HO308.out
 clear HA_HO308
 subst eo24
 try go_wp2
 go_ret
 exact ⟨by rfl, by repeat ((with_reducible exact HI0.out)), by repeat ((with_reducible exact HB.out)), by repeat ((with_reducible exact HK.out))⟩

/-! ### spec_DrawPlanesOf: function 38 -/
def spec_DrawPlanesOf.l0 : Nat → List ByteArray → List Int → Int → Int → Option (List ByteArray)
  | 0, _, _, _, _ => none
  | k + 1, x4, x320000, x320001, x320002 => (spec_l01Cur_pick.f x320000 x320001 x320002 2).bind fun bt334 => (if (x4.length : Int) < (wrap64 (64 + bt334.1)) then ((spec_l01Cur_word.f k x320000 bt334.2.1 bt334.2.2).bind fun bt337 => (if x4.length < 8796093022208 then (spec_DrawPlanesOf.l0 k (x4 ++ [bt337.1]) x320000 bt337.2.1 bt337.2.2) else (none))) else (some x4))
def spec_DrawPlanesOf.f (k : Nat) (l0 : List Int) : Option (List ByteArray) := (spec_l01Open.f l0).bind fun bt316 => ((spec_l01Cur_words.f k bt316.1 bt316.2.1 bt316.2.2 12).bind fun bt320 => ((spec_l01Cur_pick.f bt316.1 bt320.2.1 bt320.2.2 8).bind fun bt325 => (if bt325.1 = 0 then ((spec_l01Cur_badWord.f k bt316.1 bt325.2.1 bt325.2.2).bind fun bt328 => (if bt320.1.length < 8796093022208 then (some (bt320.1 ++ [bt328.1])) else (none))) else (if bt325.1 = 1 then (spec_DrawPlanesOf.l0 k bt320.1 bt316.1 bt325.2.1 bt325.2.2) else (some bt320.1)))))
theorem spec_DrawPlanesOf.mono_l : ∀ k, (∀ y0 y1 y2 y3, LeO (spec_DrawPlanesOf.l0 k y0 y1 y2 y3) (spec_DrawPlanesOf.l0 (k + 1) y0 y1 y2 y3))
  | 0 => fun _ _ _ _ r h => by simp [spec_DrawPlanesOf.l0] at h
  | k + 1 => by
    have ih0 := spec_DrawPlanesOf.mono_l k
    · intro y0 y1 y2 y3
      unfold spec_DrawPlanesOf.l0
      repeat' first | (with_reducible exact ih0 _ _ _ _) | (with_reducible exact spec_l01Cur_word.mono _ _ _ _) | (with_reducible exact LeO.refl _) | (with_reducible refine LeO.ite ?_ ?_) | (with_reducible refine LeO.bind ?_ (fun _ => ?_))
theorem spec_DrawPlanesOf.mono : ∀ a0 k, LeO (spec_DrawPlanesOf.f k a0) (spec_DrawPlanesOf.f (k + 1) a0) := by
  intro a0 k
  have ih0 := spec_DrawPlanesOf.mono_l k
  unfold spec_DrawPlanesOf.f
  repeat' first | (with_reducible exact ih0 _ _ _ _) | (with_reducible exact spec_l01Cur_badWord.mono _ _ _ _) | (with_reducible exact spec_l01Cur_words.mono _ _ _ _ _) | (with_reducible exact LeO.refl _) | (with_reducible refine LeO.ite ?_ ?_) | (with_reducible refine LeO.bind ?_ (fun _ => ?_))
set_option maxHeartbeats 8000000 in
set_option maxRecDepth 100000 in
theorem spec_DrawPlanesOf.calls (k : Nat) (A0 : Option Addr) (c0 : Nat) (l0 : List Int) (r : List ByteArray) (w : World) (hr0 : Kd.C (Kd.int .u8) w A0 l0.length l0) (hc0 : l0.length ≤ c0) (h : spec_DrawPlanesOf.f k l0 = some r) :
    Calls Try.prog 38 #[.slice A0 l0.length c0] w fun e w' => ∃ v0_ : Value, e = .returned (v0_) ∧ Kd.R Kd.string 9 w' w.heap.size (fun _ => True) v0_ r ∧ Below w.heap.size w w' := by
 have HR0 := Aside0.mk hr0
 have HC0 := Aside0.mk hc0
 clear hr0 hc0
 have HB := Aside0.mk (Below.refl w.heap.size w)
 have H : ((spec_l01Open.f l0).bind fun bt316 => ((spec_l01Cur_words.f k bt316.1 bt316.2.1 bt316.2.2 12).bind fun bt320 => ((spec_l01Cur_pick.f bt316.1 bt320.2.1 bt320.2.2 8).bind fun bt325 => (if bt325.1 = 0 then ((spec_l01Cur_badWord.f k bt316.1 bt325.2.1 bt325.2.2).bind fun bt328 => (if bt320.1.length < 8796093022208 then (some (bt320.1 ++ [bt328.1])) else (none))) else (if bt325.1 = 1 then (spec_DrawPlanesOf.l0 k bt320.1 bt316.1 bt325.2.1 bt325.2.2) else (some bt320.1)))))) = some r := h
 clear h
 replace H := Option.bind_eq_some_iff.mp H
 obtain ⟨⟨t316, t317, t318⟩, A20, H⟩ := H
 replace H : ((spec_l01Cur_words.f k t316 t317 t318 12).bind fun bt320 => ((spec_l01Cur_pick.f t316 bt320.2.1 bt320.2.2 8).bind fun bt325 => (if bt325.1 = 0 then ((spec_l01Cur_badWord.f k t316 bt325.2.1 bt325.2.2).bind fun bt328 => (if bt320.1.length < 8796093022208 then (some (bt320.1 ++ [bt328.1])) else (none))) else (if bt325.1 = 1 then (spec_DrawPlanesOf.l0 k bt320.1 t316 bt325.2.1 bt325.2.2) else (some bt320.1))))) = some r := H
 have A2 := Aside0.mk A20
 clear A20
 replace H := Option.bind_eq_some_iff.mp H
 obtain ⟨⟨t320, t323, t324⟩, A30, H⟩ := H
 replace H : ((spec_l01Cur_pick.f t316 t323 t324 8).bind fun bt325 => (if bt325.1 = 0 then ((spec_l01Cur_badWord.f k t316 bt325.2.1 bt325.2.2).bind fun bt328 => (if t320.length < 8796093022208 then (some (t320 ++ [bt328.1])) else (none))) else (if bt325.1 = 1 then (spec_DrawPlanesOf.l0 k t320 t316 bt325.2.1 bt325.2.2) else (some t320)))) = some r := H
 have A3 := Aside0.mk A30
 clear A30
 replace H := Option.bind_eq_some_iff.mp H
 obtain ⟨⟨t325, t326, t327⟩, A40, H⟩ := H
 replace H : (if t325 = 0 then ((spec_l01Cur_badWord.f k t316 t326 t327).bind fun bt328 => (if t320.length < 8796093022208 then (some (t320 ++ [bt328.1])) else (none))) else (if t325 = 1 then (spec_DrawPlanesOf.l0 k t320 t316 t326 t327) else (some t320))) = some r := H
 have A4 := Aside0.mk A40
 clear A40
 by_cases c5 : t325 = 0
 ·
  rw [if_pos c5] at H
  have c5b0 : (t325 == 0) = true := beq_iff_eq.mpr c5
  have c5b1 : (t325 != 0) = false := bne_eq_false_iff_eq.mpr c5
  clear c5
  replace H := Option.bind_eq_some_iff.mp H
  obtain ⟨⟨t328, t329, t330⟩, A60, H⟩ := H
  replace H : (if t320.length < 8796093022208 then (some (t320 ++ [t328])) else (none)) = some r := H
  have A6 := Aside0.mk A60
  clear A60
  by_cases c7 : t320.length < 8796093022208
  rotate_left
  ·
   rw [if_neg c7] at H
   exact absurd H (by simp)
  rw [if_pos c7] at H
  have LMc7 := Aside0.mk c7
  clear c7
  obtain ⟨y331, hy331⟩ : ∃ y_ : List ByteArray, y_ = (t320 ++ [t328]) := ⟨_, rfl⟩
  replace H : (some y331) = some r := by (rw [hy331]; with_reducible exact H)
  have Ny331 := Aside0.mk hy331
  clear hy331
  obtain rfl := Option.some.inj H
  go_enter Try.func38, Try.ntmps38
  go_wp2_with (first | ((with_reducible refine gate_callee (f := 43) rfl ?_); refine goesL_ (some 6) rfl rfl Try.func43 (by kernel_rfl) rfl #[.slice A0 l0.length c0] rfl (by (try simp only [List.map_toArray, List.map_cons, List.map_nil]); rfl) ?_; (with_reducible refine (spec_l01Open.calls _ _ l0 t316 t317 t318 w _ ?side1 ?side2 ?side3 A2.out).mono ?_); (case side1 => repeat ((with_reducible exact HB.out))); (case side2 => exact HR0.out); (case side3 => exact HC0.out); rintro e w8 ⟨g319, rfl, hi, hb, hb2⟩; refine ⟨_, rfl, ?_⟩; have n0_ := Aside0.mk (hb); have n1_ := Aside0.mk (hi); clear HB; have HB := n0_; have HI319 := n1_; clear n0_ n1_; (try clear hb); (try clear hb2); (try clear hk); (try clear hi)) | ((with_reducible refine gate_callee (f := 66) rfl ?_); refine goesL_ (some 8) rfl rfl Try.func66 (by kernel_rfl) rfl #[.pointer (some ⟨g319, 0, none⟩), .int .i64 12] rfl (by (try simp only [List.map_toArray, List.map_cons, List.map_nil]); rfl) ?_; (with_reducible refine (spec_l01Cur_words.calls k g319 t316 t317 t318 12 t320 t323 t324 w _ ?side1 ?side2 A3.out).mono ?_); (case side1 => repeat ((with_reducible exact HI319.out))); (case side2 => repeat ((with_reducible exact HB.out))); rintro e w9 ⟨v321, rfl, ho0, hi, hb, hk⟩; refine ⟨_, rfl, ?_⟩; have n0_ := Aside0.mk (Kd.R_lower ho0 (below_size (by repeat ((with_reducible exact HB.out))))); have n1_ := Aside0.mk (hb); have n2_ := Aside0.mk (hi); clear HB; clear HI319; have HO322 := n0_; have HB := n1_; have HI319 := n2_; clear n0_ n1_ n2_; (try clear hb); (try clear hb2); (try clear hk); (try clear hi); (try clear ho0)) | ((with_reducible refine gate_callee (f := 44) rfl ?_); refine goesL_ (some 10) rfl rfl Try.func44 (by kernel_rfl) rfl #[.pointer (some ⟨g319, 0, none⟩), .int .i64 8] rfl (by (try simp only [List.map_toArray, List.map_cons, List.map_nil]); rfl) ?_; (with_reducible refine (spec_l01Cur_pick.calls g319 t316 t323 t324 8 t325 t326 t327 w _ ?side1 ?side2 A4.out).mono ?_); (case side1 => repeat ((with_reducible exact HI319.out))); (case side2 => repeat ((with_reducible exact HB.out))); rintro e w10 ⟨rfl, hi, hb, hk⟩; refine ⟨_, rfl, ?_⟩; have n0_ := Aside0.mk (Kd.R_mono (Kd.R_keep (IsS79.apart (show IsS79 w _ g319 t316 t323 t324 from by repeat ((with_reducible exact HI319.out))) (by (with_reducible repeat (first | apply Kd.R_alloc | apply Kd.R_drewN | apply Kd.R_drew)); exact HO322.out) (by decide)) hk (fun _ h => h.2)) (fun _ h => h.1)); have n1_ := Aside0.mk (hb); have n2_ := Aside0.mk (hi); clear HO322; clear HB; clear HI319; have HO322 := n0_; have HB := n1_; have HI319 := n2_; clear n0_ n1_ n2_; (try clear hb); (try clear hb2); (try clear hk); (try clear hi)) | ((with_reducible refine gate_callee (f := 67) rfl ?_); refine goesL_ (some 15) rfl rfl Try.func67 (by kernel_rfl) rfl #[.pointer (some ⟨g319, 0, none⟩)] rfl (by (try simp only [List.map_toArray, List.map_cons, List.map_nil]); rfl) ?_; (with_reducible refine (spec_l01Cur_badWord.calls k g319 t316 t326 t327 t328 t329 t330 w _ ?side1 ?side2 A6.out).mono ?_); (case side1 => repeat ((with_reducible exact HI319.out))); (case side2 => repeat ((with_reducible exact HB.out))); rintro e w11 ⟨rfl, hi, hb, hk⟩; refine ⟨_, rfl, ?_⟩; have n0_ := Aside0.mk (Kd.R_mono (Kd.R_keep (IsS79.apart (show IsS79 w _ g319 t316 t326 t327 from by repeat ((with_reducible exact HI319.out))) (by (with_reducible repeat (first | apply Kd.R_alloc | apply Kd.R_drewN | apply Kd.R_drew)); exact HO322.out) (by decide)) hk (fun _ h => h.2)) (fun _ h => h.1)); have n1_ := Aside0.mk (hb); have n2_ := Aside0.mk (hi); clear HO322; clear HB; clear HI319; have HO322 := n0_; have HB := n1_; have HI319 := n2_; clear n0_ n1_ n2_; (try clear hb); (try clear hb2); (try clear hk); (try clear hi)) | ((with_reducible refine gate_builtin (b := .append) (xs := #[.tmp 13, .tmp 16]) rfl ?_); at_builtin; refine Kd.R_append Kd.string (w0 := w) w.heap.size rfl (.tmp 13) (.tmp 16) 34 9 (.string ⟨#[]⟩) 16 rfl Try.underlying34 info9 rfl (by decide) (by omega) v321 t320 t328 [.string t328] (fun _ => True) (fun _ => False) rfl rfl ?aP (fun _ hk => hk.elim) ?aF ?aO ?aB ?aS ?aL ?_; (case aP => exact rfl); (case aB => exact (by repeat ((with_reducible exact HB.out)))); (case aF => exact (fun _ _ => trivial)); (case aO => exact (by (with_reducible repeat (first | apply Kd.R_alloc | apply Kd.R_drewN | apply Kd.R_drew)); exact HO322.out)); (case aS => exact (below_size (by repeat ((with_reducible exact HB.out))))); (case aL => have := LMc7.out; omega); intro v332 w12 ho hb hg hat; rw [← Ny331.out] at ho; have n0_ := Aside0.mk (IsS79.grown (by repeat ((with_reducible exact HI319.out))) hg (IsS79.own_ne HI319.out HO322.out (by decide))); have n1_ := Aside0.mk (hb); have n2_ := Aside0.mk (ho); clear HI319; clear HB; clear HO322; have HI319 := n0_; have HB := n1_; have HO333 := n2_; clear n0_ n1_ n2_; clear ho hb hg hat))
  go_ret
  exact ⟨_, by rfl, by (with_reducible repeat (first | apply Kd.R_alloc | apply Kd.R_drewN | apply Kd.R_drew)); exact HO333.out, by repeat ((with_reducible exact HB.out))⟩
 rw [if_neg c5] at H
 have c5b0 : (t325 == 0) = false := beq_eq_false_iff_ne.mpr c5
 have c5b1 : (t325 != 0) = true := bne_iff_ne.mpr c5
 by_cases c13 : t325 = 1
 rotate_left
 ·
  rw [if_neg c13] at H
  have c13b0 : (t325 == 1) = false := beq_eq_false_iff_ne.mpr c13
  have c13b1 : (t325 != 1) = true := bne_iff_ne.mpr c13
  obtain rfl := Option.some.inj H
  go_enter Try.func38, Try.ntmps38
  go_wp2_with (first | ((with_reducible refine gate_callee (f := 43) rfl ?_); refine goesL_ (some 6) rfl rfl Try.func43 (by kernel_rfl) rfl #[.slice A0 l0.length c0] rfl (by (try simp only [List.map_toArray, List.map_cons, List.map_nil]); rfl) ?_; (with_reducible refine (spec_l01Open.calls _ _ l0 t316 t317 t318 w _ ?side1 ?side2 ?side3 A2.out).mono ?_); (case side1 => repeat ((with_reducible exact HB.out))); (case side2 => exact HR0.out); (case side3 => exact HC0.out); rintro e w27 ⟨g319, rfl, hi, hb, hb2⟩; refine ⟨_, rfl, ?_⟩; have n0_ := Aside0.mk (hb); have n1_ := Aside0.mk (hi); clear HB; have HB := n0_; have HI319 := n1_; clear n0_ n1_; (try clear hb); (try clear hb2); (try clear hk); (try clear hi)) | ((with_reducible refine gate_callee (f := 66) rfl ?_); refine goesL_ (some 8) rfl rfl Try.func66 (by kernel_rfl) rfl #[.pointer (some ⟨g319, 0, none⟩), .int .i64 12] rfl (by (try simp only [List.map_toArray, List.map_cons, List.map_nil]); rfl) ?_; (with_reducible refine (spec_l01Cur_words.calls k g319 t316 t317 t318 12 t320 t323 t324 w _ ?side1 ?side2 A3.out).mono ?_); (case side1 => repeat ((with_reducible exact HI319.out))); (case side2 => repeat ((with_reducible exact HB.out))); rintro e w28 ⟨v321, rfl, ho0, hi, hb, hk⟩; refine ⟨_, rfl, ?_⟩; have n0_ := Aside0.mk (Kd.R_lower ho0 (below_size (by repeat ((with_reducible exact HB.out))))); have n1_ := Aside0.mk (hb); have n2_ := Aside0.mk (hi); clear HB; clear HI319; have HO322 := n0_; have HB := n1_; have HI319 := n2_; clear n0_ n1_ n2_; (try clear hb); (try clear hb2); (try clear hk); (try clear hi); (try clear ho0)) | ((with_reducible refine gate_callee (f := 44) rfl ?_); refine goesL_ (some 10) rfl rfl Try.func44 (by kernel_rfl) rfl #[.pointer (some ⟨g319, 0, none⟩), .int .i64 8] rfl (by (try simp only [List.map_toArray, List.map_cons, List.map_nil]); rfl) ?_; (with_reducible refine (spec_l01Cur_pick.calls g319 t316 t323 t324 8 t325 t326 t327 w _ ?side1 ?side2 A4.out).mono ?_); (case side1 => repeat ((with_reducible exact HI319.out))); (case side2 => repeat ((with_reducible exact HB.out))); rintro e w29 ⟨rfl, hi, hb, hk⟩; refine ⟨_, rfl, ?_⟩; have n0_ := Aside0.mk (Kd.R_mono (Kd.R_keep (IsS79.apart (show IsS79 w _ g319 t316 t323 t324 from by repeat ((with_reducible exact HI319.out))) (by (with_reducible repeat (first | apply Kd.R_alloc | apply Kd.R_drewN | apply Kd.R_drew)); exact HO322.out) (by decide)) hk (fun _ h => h.2)) (fun _ h => h.1)); have n1_ := Aside0.mk (hb); have n2_ := Aside0.mk (hi); clear HO322; clear HB; clear HI319; have HO322 := n0_; have HB := n1_; have HI319 := n2_; clear n0_ n1_ n2_; (try clear hb); (try clear hb2); (try clear hk); (try clear hi)))
  go_ret
  exact ⟨_, by rfl, by (with_reducible repeat (first | apply Kd.R_alloc | apply Kd.R_drewN | apply Kd.R_drew)); exact HO322.out, by repeat ((with_reducible exact HB.out))⟩
 rw [if_pos c13] at H
 have c13b0 : (t325 == 1) = true := beq_iff_eq.mpr c13
 have c13b1 : (t325 != 1) = false := bne_eq_false_iff_eq.mpr c13
 clear c13
 have H' := Aside0.mk H
 clear H
 go_enter Try.func38, Try.ntmps38
 go_wp2_with (first | ((with_reducible refine gate_callee (f := 43) rfl ?_); refine goesL_ (some 6) rfl rfl Try.func43 (by kernel_rfl) rfl #[.slice A0 l0.length c0] rfl (by (try simp only [List.map_toArray, List.map_cons, List.map_nil]); rfl) ?_; (with_reducible refine (spec_l01Open.calls _ _ l0 t316 t317 t318 w _ ?side1 ?side2 ?side3 A2.out).mono ?_); (case side1 => repeat ((with_reducible exact HB.out))); (case side2 => exact HR0.out); (case side3 => exact HC0.out); rintro e w14 ⟨g319, rfl, hi, hb, hb2⟩; refine ⟨_, rfl, ?_⟩; have n0_ := Aside0.mk (hb); have n1_ := Aside0.mk (hi); clear HB; have HB := n0_; have HI319 := n1_; clear n0_ n1_; (try clear hb); (try clear hb2); (try clear hk); (try clear hi)) | ((with_reducible refine gate_callee (f := 66) rfl ?_); refine goesL_ (some 8) rfl rfl Try.func66 (by kernel_rfl) rfl #[.pointer (some ⟨g319, 0, none⟩), .int .i64 12] rfl (by (try simp only [List.map_toArray, List.map_cons, List.map_nil]); rfl) ?_; (with_reducible refine (spec_l01Cur_words.calls k g319 t316 t317 t318 12 t320 t323 t324 w _ ?side1 ?side2 A3.out).mono ?_); (case side1 => repeat ((with_reducible exact HI319.out))); (case side2 => repeat ((with_reducible exact HB.out))); rintro e w15 ⟨v321, rfl, ho0, hi, hb, hk⟩; refine ⟨_, rfl, ?_⟩; have n0_ := Aside0.mk (Kd.R_lower ho0 (below_size (by repeat ((with_reducible exact HB.out))))); have n1_ := Aside0.mk (hb); have n2_ := Aside0.mk (hi); clear HB; clear HI319; have HO322 := n0_; have HB := n1_; have HI319 := n2_; clear n0_ n1_ n2_; (try clear hb); (try clear hb2); (try clear hk); (try clear hi); (try clear ho0)) | ((with_reducible refine gate_callee (f := 44) rfl ?_); refine goesL_ (some 10) rfl rfl Try.func44 (by kernel_rfl) rfl #[.pointer (some ⟨g319, 0, none⟩), .int .i64 8] rfl (by (try simp only [List.map_toArray, List.map_cons, List.map_nil]); rfl) ?_; (with_reducible refine (spec_l01Cur_pick.calls g319 t316 t323 t324 8 t325 t326 t327 w _ ?side1 ?side2 A4.out).mono ?_); (case side1 => repeat ((with_reducible exact HI319.out))); (case side2 => repeat ((with_reducible exact HB.out))); rintro e w16 ⟨rfl, hi, hb, hk⟩; refine ⟨_, rfl, ?_⟩; have n0_ := Aside0.mk (Kd.R_mono (Kd.R_keep (IsS79.apart (show IsS79 w _ g319 t316 t323 t324 from by repeat ((with_reducible exact HI319.out))) (by (with_reducible repeat (first | apply Kd.R_alloc | apply Kd.R_drewN | apply Kd.R_drew)); exact HO322.out) (by decide)) hk (fun _ h => h.2)) (fun _ h => h.1)); have n1_ := Aside0.mk (hb); have n2_ := Aside0.mk (hi); clear HO322; clear HB; clear HI319; have HO322 := n0_; have HB := n1_; have HI319 := n2_; clear n0_ n1_ n2_; (try clear hb); (try clear hb2); (try clear hk); (try clear hi)))
 go_loopg [4] k (fun kq v4 w' => ∃ (x4_1 : List ByteArray) (x320001_1 : Int) (x320002_1 : Int), Aside0 (spec_DrawPlanesOf.l0 kq x4_1 t316 x320001_1 x320002_1 = some r) ∧ Aside0 (kq ≤ k) ∧ Aside0 (Kd.R Kd.string 9 w' w.heap.size (fun _ => True) v4 x4_1) ∧ Aside0 (IsS79 w w' g319 t316 x320001_1 x320002_1) ∧ Aside0 (Below w.heap.size w w'))
 case atStart => exact ⟨(t320), (t326), (t327), H', ⟨Nat.le_refl _⟩, ⟨by (with_reducible repeat (first | apply Kd.R_alloc | apply Kd.R_drewN | apply Kd.R_drew)); exact HO322.out⟩, ⟨by repeat ((with_reducible exact HI319.out))⟩, ⟨by repeat ((with_reducible exact HB.out))⟩⟩
 case round =>
  clear H'
  try clear c1
  try clear p2
  try clear c3
  try clear c4
  try clear c5
  try clear c5b0
  try clear c5b1
  try clear c6
  try clear c7
  try clear c13
  try clear c13b0
  try clear c13b1
  obtain ⟨x4_1, x320001_1, x320002_1, HA, HK1, HO_4, HI319, HB⟩ := hrel
  cases gk with
  | zero => exact absurd HA.out (by simp [spec_DrawPlanesOf.l0])
  | succ k1 =>
   have H := HA.out
   clear HA
   simp only [spec_DrawPlanesOf.l0] at H
   replace H := Option.bind_eq_some_iff.mp H
   obtain ⟨⟨t334, t335, t336⟩, A170, H⟩ := H
   replace H : (if (x4_1.length : Int) < (wrap64 (64 + t334)) then ((spec_l01Cur_word.f k1 t316 t335 t336).bind fun bt337 => (if x4_1.length < 8796093022208 then (spec_DrawPlanesOf.l0 k1 (x4_1 ++ [bt337.1]) t316 bt337.2.1 bt337.2.2) else (none))) else (some x4_1)) = some r := H
   have A17 := Aside0.mk A170
   clear A170
   by_cases c18 : (x4_1.length : Int) < (wrap64 (64 + t334))
   rotate_left
   ·
    rw [if_neg c18] at H
    have c18b0 : decide ((x4_1.length : Int) < (wrap64 (64 + t334))) = false := decide_eq_false c18
    clear c18
    obtain rfl := Option.some.inj H
    obtain ⟨Ao25, co25, eo25⟩ := Kd.R_slice HO_4.out
    subst eo25
    go_wp2_with (((with_reducible refine gate_callee (f := 44) rfl ?_); refine goesL_ (some 23) rfl rfl Try.func44 (by kernel_rfl) rfl #[.pointer (some ⟨g319, 0, none⟩), .int .i64 2] rfl (by (try simp only [List.map_toArray, List.map_cons, List.map_nil]); rfl) ?_; (with_reducible refine (spec_l01Cur_pick.calls g319 t316 x320001_1 x320002_1 2 t334 t335 t336 w _ ?side1 ?side2 A17.out).mono ?_); (case side1 => repeat ((with_reducible exact HI319.out))); (case side2 => repeat ((with_reducible exact HB.out))); rintro e w26 ⟨rfl, hi, hb, hk⟩; refine ⟨_, rfl, ?_⟩; have n0_ := Aside0.mk (Kd.R_mono (Kd.R_keep (IsS79.apart (show IsS79 w _ g319 t316 x320001_1 x320002_1 from by repeat ((with_reducible exact HI319.out))) (by (with_reducible repeat (first | apply Kd.R_alloc | apply Kd.R_drewN | apply Kd.R_drew)); exact HO_4.out) (by decide)) hk (fun _ h => h.2)) (fun _ h => h.1)); have n1_ := Aside0.mk (hb); have n2_ := Aside0.mk (hi); clear HO_4; clear HB; clear HI319; have HO_4 := n0_; have HB := n1_; have HI319 := n2_; clear n0_ n1_ n2_; (try clear hb); (try clear hb2); (try clear hk); (try clear hi)))
    go_ret
    exact ⟨_, by rfl, by (with_reducible repeat (first | apply Kd.R_alloc | apply Kd.R_drewN | apply Kd.R_drew)); exact HO_4.out, by repeat ((with_reducible exact HB.out))⟩
   rw [if_pos c18] at H
   have c18b0 : decide ((x4_1.length : Int) < (wrap64 (64 + t334))) = true := decide_eq_true c18
   clear c18
   replace H := Option.bind_eq_some_iff.mp H
   obtain ⟨⟨t337, t338, t339⟩, A190, H⟩ := H
   replace H : (if x4_1.length < 8796093022208 then (spec_DrawPlanesOf.l0 k1 (x4_1 ++ [t337]) t316 t338 t339) else (none)) = some r := H
   have A19 := Aside0.mk A190
   clear A190
   by_cases c20 : x4_1.length < 8796093022208
   rotate_left
   ·
    rw [if_neg c20] at H
    exact absurd H (by simp)
   rw [if_pos c20] at H
   have LMc20 := Aside0.mk c20
   clear c20
   obtain ⟨y340, hy340⟩ : ∃ y_ : List ByteArray, y_ = (x4_1 ++ [t337]) := ⟨_, rfl⟩
   replace H : (spec_DrawPlanesOf.l0 k1 y340 t316 t338 t339) = some r := by (rw [hy340]; with_reducible exact H)
   have Ny340 := Aside0.mk hy340
   clear hy340
   have H' := Aside0.mk H
   clear H
   obtain ⟨Ao21, co21, eo21⟩ := Kd.R_slice HO_4.out
   subst eo21
   go_wp2_with (first | ((with_reducible refine gate_callee (f := 44) rfl ?_); refine goesL_ (some 23) rfl rfl Try.func44 (by kernel_rfl) rfl #[.pointer (some ⟨g319, 0, none⟩), .int .i64 2] rfl (by (try simp only [List.map_toArray, List.map_cons, List.map_nil]); rfl) ?_; (with_reducible refine (spec_l01Cur_pick.calls g319 t316 x320001_1 x320002_1 2 t334 t335 t336 w _ ?side1 ?side2 A17.out).mono ?_); (case side1 => repeat ((with_reducible exact HI319.out))); (case side2 => repeat ((with_reducible exact HB.out))); rintro e w22 ⟨rfl, hi, hb, hk⟩; refine ⟨_, rfl, ?_⟩; have n0_ := Aside0.mk (Kd.R_mono (Kd.R_keep (IsS79.apart (show IsS79 w _ g319 t316 x320001_1 x320002_1 from by repeat ((with_reducible exact HI319.out))) (by (with_reducible repeat (first | apply Kd.R_alloc | apply Kd.R_drewN | apply Kd.R_drew)); exact HO_4.out) (by decide)) hk (fun _ h => h.2)) (fun _ h => h.1)); have n1_ := Aside0.mk (hb); have n2_ := Aside0.mk (hi); clear HO_4; clear HB; clear HI319; have HO_4 := n0_; have HB := n1_; have HI319 := n2_; clear n0_ n1_ n2_; (try clear hb); (try clear hb2); (try clear hk); (try clear hi)) | ((with_reducible refine gate_callee (f := 68) rfl ?_); refine goesL_ (some 28) rfl rfl Try.func68 (by kernel_rfl) rfl #[.pointer (some ⟨g319, 0, none⟩)] rfl (by (try simp only [List.map_toArray, List.map_cons, List.map_nil]); rfl) ?_; (with_reducible refine (spec_l01Cur_word.calls k1 g319 t316 t335 t336 t337 t338 t339 w _ ?side1 ?side2 A19.out).mono ?_); (case side1 => repeat ((with_reducible exact HI319.out))); (case side2 => repeat ((with_reducible exact HB.out))); rintro e w23 ⟨rfl, hi, hb, hk⟩; refine ⟨_, rfl, ?_⟩; have n0_ := Aside0.mk (Kd.R_mono (Kd.R_keep (IsS79.apart (show IsS79 w _ g319 t316 t335 t336 from by repeat ((with_reducible exact HI319.out))) (by (with_reducible repeat (first | apply Kd.R_alloc | apply Kd.R_drewN | apply Kd.R_drew)); exact HO_4.out) (by decide)) hk (fun _ h => h.2)) (fun _ h => h.1)); have n1_ := Aside0.mk (hb); have n2_ := Aside0.mk (hi); clear HO_4; clear HB; clear HI319; have HO_4 := n0_; have HB := n1_; have HI319 := n2_; clear n0_ n1_ n2_; (try clear hb); (try clear hb2); (try clear hk); (try clear hi)) | ((with_reducible refine gate_builtin (b := .append) (xs := #[.tmp 26, .tmp 29]) rfl ?_); at_builtin; refine Kd.R_append Kd.string (w0 := w) w.heap.size rfl (.tmp 26) (.tmp 29) 34 9 (.string ⟨#[]⟩) 16 rfl Try.underlying34 info9 rfl (by decide) (by omega) (.slice Ao21 x4_1.length co21) x4_1 t337 [.string t337] (fun _ => True) (fun _ => False) rfl rfl ?aP (fun _ hk => hk.elim) ?aF ?aO ?aB ?aS ?aL ?_; (case aP => exact rfl); (case aB => exact (by repeat ((with_reducible exact HB.out)))); (case aF => exact (fun _ _ => trivial)); (case aO => exact (by (with_reducible repeat (first | apply Kd.R_alloc | apply Kd.R_drewN | apply Kd.R_drew)); exact HO_4.out)); (case aS => exact (below_size (by repeat ((with_reducible exact HB.out))))); (case aL => have := LMc20.out; omega); intro v341 w24 ho hb hg hat; rw [← Ny340.out] at ho; have n0_ := Aside0.mk (IsS79.grown (by repeat ((with_reducible exact HI319.out))) hg (IsS79.own_ne HI319.out HO_4.out (by decide))); have n1_ := Aside0.mk (hb); have n2_ := Aside0.mk (ho); clear HI319; clear HB; clear HO_4; have HI319 := n0_; have HB := n1_; have HO342 := n2_; clear n0_ n1_ n2_; clear ho hb hg hat))
   go_roundg k1
   case measure => have := HK1.out; omega
   case rel => exact ⟨(y340), (t338), (t339), H', ⟨by have := HK1.out; omega⟩, ⟨by (with_reducible repeat (first | apply Kd.R_alloc | apply Kd.R_drewN | apply Kd.R_drew)); exact HO342.out⟩, ⟨by repeat ((with_reducible exact HI319.out))⟩, ⟨by repeat ((with_reducible exact HB.out))⟩⟩

end Go.Proofs.Ytljmhhadclgegaa.PFnBatch

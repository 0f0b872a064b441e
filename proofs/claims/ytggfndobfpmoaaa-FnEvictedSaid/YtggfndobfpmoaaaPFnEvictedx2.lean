-- Laid by a program of this session: what the print of the kit writes, and contracts of the session where the print takes no function. Lean checks it.
import Derived.Test.YtggfndobfpmoaaaPFnEvictedx0
import Derived.Test.YtggfndobfpmoaaaPFnEvictedx1
namespace Go.Proofs.Ytggfndobfpmoaaa.PFnEvicted
open Go.RowKit Go.Proofs.YtggfndobfpmoaaaW.PrintWords Go.Proofs.YtggfndobfpmoaaaW.PrintLast Go.Proofs.YtggfndobfpmoaaaW.PrintMore
attribute [local go_sem] max2_int min2_int max_two min_two max_three min_three max_four min_four   -- for this text's walks alone
set_option linter.unusedVariables false
set_option linter.unusedSimpArgs false

/-! ### spec_l01Cur_bytes: function 83 -/
def spec_l01Cur_bytes.l0 : Nat → List Int → Int → List Int → Int → Int → Option (List Int × Int × Int)
  | 0, _, _, _, _, _ => none
  | k + 1, x5, x6, x1000, x1001, x1002 => if x6 > 0 then ((spec_l01Cur_pick.f x1000 x1001 x1002 256).bind fun bt161 => (if x5.length < 140737488355328 then (spec_l01Cur_bytes.l0 k (x5 ++ [(bt161.1) % 256]) (wrap64 (x6 - 1)) x1000 bt161.2.1 bt161.2.2) else (none))) else (some (x5, x1001, x1002))
def spec_l01Cur_bytes.f (k : Nat) (s0_0 : List Int) (s0_1 : Int) (s0_2 : Int) (a1 : Int) : Option (List Int × Int × Int) := (spec_l01Cur_size.f s0_0 s0_1 s0_2 a1).bind fun bt158 => (spec_l01Cur_bytes.l0 k (([] : List Int)) bt158.1 s0_0 bt158.2.1 bt158.2.2)
theorem spec_l01Cur_bytes.mono_l : ∀ k, (∀ y0 y1 y2 y3 y4, LeO (spec_l01Cur_bytes.l0 k y0 y1 y2 y3 y4) (spec_l01Cur_bytes.l0 (k + 1) y0 y1 y2 y3 y4))
  | 0 => fun _ _ _ _ _ r h => by simp [spec_l01Cur_bytes.l0] at h
  | k + 1 => by
    have ih0 := spec_l01Cur_bytes.mono_l k
    · intro y0 y1 y2 y3 y4
      unfold spec_l01Cur_bytes.l0
      repeat' first | (with_reducible exact ih0 _ _ _ _ _) | (with_reducible exact LeO.refl _) | (with_reducible refine LeO.ite ?_ ?_) | (with_reducible refine LeO.bind ?_ (fun _ => ?_))
theorem spec_l01Cur_bytes.mono : ∀ a0 a1 a2 a3 k, LeO (spec_l01Cur_bytes.f k a0 a1 a2 a3) (spec_l01Cur_bytes.f (k + 1) a0 a1 a2 a3) := by
  intro a0 a1 a2 a3 k
  have ih0 := spec_l01Cur_bytes.mono_l k
  unfold spec_l01Cur_bytes.f
  repeat' first | (with_reducible exact ih0 _ _ _ _ _) | (with_reducible exact LeO.refl _) | (with_reducible refine LeO.bind ?_ (fun _ => ?_))
set_option maxHeartbeats 8000000 in
set_option maxRecDepth 100000 in
theorem spec_l01Cur_bytes.calls (k : Nat) (g : Nat) (s0_0 : List Int) (s0_1 : Int) (s0_2 : Int) (a1 : Int) (r1 : List Int) (r2 : Int) (r3 : Int) (w0 w : World) (hI : IsS92 w0 w g s0_0 s0_1 s0_2) (hB : Below w0.heap.size w0 w) (h : spec_l01Cur_bytes.f k s0_0 s0_1 s0_2 a1 = some (r1, r2, r3)) :
    Calls Try.prog 83 #[.pointer (some ⟨g, 0, none⟩), .int .i64 a1] w fun e w' => ∃ v0_ : Value, e = .returned (v0_) ∧ Kd.R (Kd.int .u8) 5 w' w.heap.size (fun _ => True) v0_ r1 ∧ IsS92 w0 w' g s0_0 r2 r3 ∧ Below w0.heap.size w0 w' ∧ KeepBut w w' g none := by
  have HI0 := Aside0.mk hI
  have HK := Aside0.mk (KeepBut.refl w g none)
  have HL := Aside0.mk hB.size
  clear hI
  have HW0 := Aside0.mk hB.size
  have HB := Aside0.mk hB
  clear hB
  have H : ((spec_l01Cur_size.f s0_0 s0_1 s0_2 a1).bind fun bt158 => (spec_l01Cur_bytes.l0 k (([] : List Int)) bt158.1 s0_0 bt158.2.1 bt158.2.2)) = some (r1, r2, r3) := h
  clear h
  obtain ⟨y155, hy155⟩ : ∃ y_ : List Int, y_ = (([] : List Int)) := ⟨_, rfl⟩
  replace H : ((spec_l01Cur_size.f s0_0 s0_1 s0_2 a1).bind fun bt158 => (spec_l01Cur_bytes.l0 k y155 bt158.1 s0_0 bt158.2.1 bt158.2.2)) = some (r1, r2, r3) := by (rw [hy155]; with_reducible exact H)
  have Ny155 := Aside0.mk hy155
  clear hy155
  replace H := Option.bind_eq_some_iff.mp H
  obtain ⟨⟨t158, t159, t160⟩, A30, H⟩ := H
  replace H : (spec_l01Cur_bytes.l0 k y155 t158 s0_0 t159 t160) = some (r1, r2, r3) := H
  have A3 := Aside0.mk A30
  clear A30
  have H' := Aside0.mk H
  clear H
  go_enter Try.func83, Try.ntmps83
  go_wp2_with (first | ((with_reducible refine gate_dst (N := 7) rfl ?_); refine Kd.R_lit (Kd.int .u8) _ 5 ?hg (N := 7) ?hd (xs := ([] : List Int)) (inner := []) (ok := fun _ => True) (okp := fun _ => True) ?hr ?hp (fun _ hk => hk) trivial (Below.refl _ _) (Nat.le_refl _) (by simp) ?_; (case hd => rfl); (case hg => rfl); (case hr => (go_simp; done)); (case hp => exact (Reps.none _ _)); intro v156 w4 ho5 hb hg_ hnew_; clear hg_ hnew_; (rw [← Ny155.out] at ho5); have n0_ := Aside0.mk (Kd.R_lower ho5 (keep_size (w := w) (g := g) (row := none) (by repeat ((with_reducible exact HK.out))))); have n1_ := Aside0.mk (IsS92.below (by repeat ((with_reducible exact HI0.out))) hb); have n2_ := Aside0.mk (KeepBut.trans (by repeat ((with_reducible exact HK.out))) (KeepBut.of_below hb g none) (.inl rfl)); have n3_ := Aside0.mk (below_step (by repeat ((with_reducible exact HB.out))) hb); clear HI0; clear HK; clear HB; have HO157 := n0_; have HI0 := n1_; have HK := n2_; have HB := n3_; clear n0_ n1_ n2_ n3_; clear hb ho5) | ((with_reducible refine gate_callee (f := 92) rfl ?_); refine goesL_ (some 10) rfl rfl Try.func92 (by kernel_rfl) rfl #[.pointer (some ⟨g, 0, none⟩), .int .i64 a1] rfl (by (try simp only [List.map_toArray, List.map_cons, List.map_nil]); rfl) ?_; (with_reducible refine (spec_l01Cur_size.calls g s0_0 s0_1 s0_2 a1 t158 t159 t160 w0 _ ?side1 ?side2 A3.out).mono ?_); (case side1 => repeat ((with_reducible exact HI0.out))); (case side2 => repeat ((with_reducible exact HB.out))); rintro e w6 ⟨rfl, hi, hb, hk⟩; refine ⟨_, rfl, ?_⟩; have n0_ := Aside0.mk (Kd.R_mono (Kd.R_keep (IsS92.apart (show IsS92 w0 _ g s0_0 s0_1 s0_2 from by repeat ((with_reducible exact HI0.out))) (by (with_reducible repeat (first | apply Kd.R_alloc | apply Kd.R_drewN | apply Kd.R_drew)); exact HO157.out) (by decide)) hk (fun _ h => h.2)) (fun _ h => h.1)); have n1_ := Aside0.mk (KeepBut.trans (by repeat ((with_reducible exact HK.out))) hk (.inl rfl)); have n2_ := Aside0.mk (hb); have n3_ := Aside0.mk (hi); clear HO157; clear HK; clear HB; clear HI0; have HO157 := n0_; have HK := n1_; have HB := n2_; have HI0 := n3_; clear n0_ n1_ n2_ n3_; (try clear hb); (try clear hb2); (try clear hk); (try clear hi)))
  go_loopg [5, 6] k (fun kq v5 v6 w' => ∃ (x5_1 : List Int) (x6_1 : Int) (x1001_1 : Int) (x1002_1 : Int), v6 = .int .i64 x6_1 ∧ Aside0 (spec_l01Cur_bytes.l0 kq x5_1 x6_1 s0_0 x1001_1 x1002_1 = some (r1, r2, r3)) ∧ Aside0 (kq ≤ k) ∧ Aside0 (Kd.R (Kd.int .u8) 5 w' w.heap.size (fun _ => True) v5 x5_1) ∧ Aside0 (IsS92 w0 w' g s0_0 x1001_1 x1002_1) ∧ Aside0 (KeepBut w w' g none) ∧ Aside0 (Below w0.heap.size w0 w'))
  case atStart => exact ⟨(y155), (t158), (t159), (t160), (by rfl), H', ⟨Nat.le_refl _⟩, ⟨by (with_reducible repeat (first | apply Kd.R_alloc | apply Kd.R_drewN | apply Kd.R_drew)); exact HO157.out⟩, ⟨by repeat ((with_reducible exact HI0.out))⟩, ⟨by repeat ((with_reducible exact HK.out))⟩, ⟨by repeat ((with_reducible exact HB.out))⟩⟩
  case round =>
    clear H'
    try clear p2
    obtain ⟨x5_1, x6_1, x1001_1, x1002_1, rfl, HA, HK1, HO_5, HI0, HK, HB⟩ := hrel
    cases gk with
    | zero => exact absurd HA.out (by simp [spec_l01Cur_bytes.l0])
    | succ k1 =>
      have H := HA.out
      clear HA
      simp only [spec_l01Cur_bytes.l0] at H
      by_cases c7 : x6_1 > 0
      · rw [if_pos c7] at H
        have c7b0 : decide (0 < x6_1) = true := decide_eq_true c7
        clear c7
        replace H := Option.bind_eq_some_iff.mp H
        obtain ⟨⟨t161, t162, t163⟩, A80, H⟩ := H
        replace H : (if x5_1.length < 140737488355328 then (spec_l01Cur_bytes.l0 k1 (x5_1 ++ [(t161) % 256]) (wrap64 (x6_1 - 1)) s0_0 t162 t163) else (none)) = some (r1, r2, r3) := H
        have A8 := Aside0.mk A80
        clear A80
        by_cases c9 : x5_1.length < 140737488355328
        · rw [if_pos c9] at H
          have LMc9 := Aside0.mk c9
          clear c9
          obtain ⟨y164, hy164⟩ : ∃ y_ : List Int, y_ = (x5_1 ++ [(t161) % 256]) := ⟨_, rfl⟩
          replace H : (spec_l01Cur_bytes.l0 k1 y164 (wrap64 (x6_1 - 1)) s0_0 t162 t163) = some (r1, r2, r3) := by (rw [hy164]; with_reducible exact H)
          have Ny164 := Aside0.mk hy164
          clear hy164
          have H' := Aside0.mk H
          clear H
          go_wp2_with (first | ((with_reducible refine gate_callee (f := 82) rfl ?_); refine goesL_ (some 17) rfl rfl Try.func82 (by kernel_rfl) rfl #[.pointer (some ⟨g, 0, none⟩), .int .i64 256] rfl (by (try simp only [List.map_toArray, List.map_cons, List.map_nil]); rfl) ?_; (with_reducible refine (spec_l01Cur_pick.calls g s0_0 x1001_1 x1002_1 256 t161 t162 t163 w0 _ ?side1 ?side2 A8.out).mono ?_); (case side1 => repeat ((with_reducible exact HI0.out))); (case side2 => repeat ((with_reducible exact HB.out))); rintro e w10 ⟨rfl, hi, hb, hk⟩; refine ⟨_, rfl, ?_⟩; have n0_ := Aside0.mk (Kd.R_mono (Kd.R_keep (IsS92.apart (show IsS92 w0 _ g s0_0 x1001_1 x1002_1 from by repeat ((with_reducible exact HI0.out))) (by (with_reducible repeat (first | apply Kd.R_alloc | apply Kd.R_drewN | apply Kd.R_drew)); exact HO_5.out) (by decide)) hk (fun _ h => h.2)) (fun _ h => h.1)); have n1_ := Aside0.mk (KeepBut.trans (by repeat ((with_reducible exact HK.out))) hk (.inl rfl)); have n2_ := Aside0.mk (hb); have n3_ := Aside0.mk (hi); clear HO_5; clear HK; clear HB; clear HI0; have HO_5 := n0_; have HK := n1_; have HB := n2_; have HI0 := n3_; clear n0_ n1_ n2_ n3_; (try clear hb); (try clear hb2); (try clear hk); (try clear hi)) | ((with_reducible refine gate_builtin (b := .append) (xs := #[.tmp 15, .tmp 19]) rfl ?_); at_builtin; refine Kd.R_append (Kd.int .u8) w.heap.size rfl (.tmp 15) (.tmp 19) 24 5 (.int .u8 0) 1 rfl Try.underlying24 info5 rfl (by decide) (by omega) u5 x5_1 ((t161) % 256) [.int .u8 ((t161) % 256)] (fun _ => True) (fun _ => False) rfl rfl ?aP (fun _ hk => hk.elim) ?aF ?aO (Below.refl _ _) ?aS ?aL ?_; (case aP => exact rfl); (case aF => exact (fun _ _ => trivial)); (case aO => exact (by (with_reducible repeat (first | apply Kd.R_alloc | apply Kd.R_drewN | apply Kd.R_drew)); exact HO_5.out)); (case aS => exact (keep_size (w := w) (g := g) (row := none) (by repeat ((with_reducible exact HK.out))))); (case aL => have := LMc9.out; omega); intro v165 w11 ho hb hg hat; rw [← Ny164.out] at ho; have n0_ := Aside0.mk (IsS92.grown (by repeat ((with_reducible exact HI0.out))) hg (IsS92.own_ne HI0.out HO_5.out (by decide))); have n1_ := Aside0.mk (below_weaken (by repeat ((with_reducible exact HB.out))) HL.out hb); have n2_ := Aside0.mk (KeepBut.trans (by repeat ((with_reducible exact HK.out))) (KeepBut.of_grown hg g) (Kd.R_base2 HO_5.out)); have n3_ := Aside0.mk (ho); clear HI0; clear HB; clear HK; clear HO_5; have HI0 := n0_; have HB := n1_; have HK := n2_; have HO166 := n3_; clear n0_ n1_ n2_ n3_; clear ho hb hg hat))
          go_roundg k1
          case measure => have := HK1.out; omega
          case rel => exact ⟨(y164), (wrap64 (x6_1 - 1)), (t162), (t163), (by rfl), H', ⟨by have := HK1.out; omega⟩, ⟨by (with_reducible repeat (first | apply Kd.R_alloc | apply Kd.R_drewN | apply Kd.R_drew)); exact HO166.out⟩, ⟨by repeat ((with_reducible exact HI0.out))⟩, ⟨by repeat ((with_reducible exact HK.out))⟩, ⟨by repeat ((with_reducible exact HB.out))⟩⟩
        · rw [if_neg c9] at H
          exact absurd H (by simp)
      · rw [if_neg c7] at H
        have c7b0 : decide (0 < x6_1) = false := decide_eq_false c7
        clear c7
        simp only [Option.some.injEq, Prod.mk.injEq] at H
        obtain ⟨rfl, rfl, rfl⟩ := H
        go_wp2
        go_ret
        exact ⟨_, by rfl, by (with_reducible repeat (first | apply Kd.R_alloc | apply Kd.R_drewN | apply Kd.R_drew)); exact HO_5.out, by repeat ((with_reducible exact HI0.out)), by repeat ((with_reducible exact HB.out)), by repeat ((with_reducible exact HK.out))⟩

/-! ### spec_l01Cur_badBlocks: function 55 -/
/-- A block of another type is none of the blocks of a row that is handed over. -/
theorem deep_box {w : World} {A B C : Prop} {g t : Nat} {E : List Nat} {cells : Array Value} (hb : w.heap[g]? = some (.cells cells t (0, 0))) (ht : ∀ q, q ∈ E → q ≠ t) (h : A ∧ B ∧ C ∧ ∃ q, q ∈ E ∧ ∃ cells, w.heap[g]? = some (.cells cells q (0, 0))) : False := by
  obtain ⟨_, _, _, q, hq, c, hc⟩ := h
  rw [hc] at hb
  injection hb with hb
  injection hb with _ hb
  exact ht q hq hb
/-- A row with rows inside that was just made: its blocks are new. -/
theorem deep_new {α : Type} {d : Kd α} {e base : Nat} {ok : Nat → Prop} {w1 : World} {v : Value} {xs : List α} (h : Kd.S d e w1 base ok v xs) : Kd.S d e w1 base (fun k => base ≤ k) v xs := Kd.S_mono (Kd.S_bound h) (fun _ hk => by exact hk.2.1)
/-- A row with rows inside beside a row that is handed over. -/
theorem kept_deep {α : Type} {d : Kd α} {e base : Nat} {ok S : Nat → Prop} {W W2 : World} {v : Value} {xs : List α} (h : Kd.S d e W base ok v xs) (hk : Kept W W2 S) (hne : ∀ k, ok k → S k → False) : Kd.S d e W2 base ok v xs := Kd.S_kept h hk (fun k h1 h2 => hne k h1 h2)
/-- A flat row beside a row that is handed over: its block is none of that one's. -/
theorem kept_flat {α : Type} {d : Kd α} {e base : Nat} {ok S : Nat → Prop} {W W2 : World} {v : Value} {xs : List α} (hE : d.E = []) (h : d.R e W base ok v xs) (hk : Kept W W2 S) (hne : ∀ k, some k = v.ownBlock → S k → False) : d.R e W2 base ok v xs :=
  Kd.R_mono (Kd.R_kept (Kd.R_tight hE h) hk (fun k hk2 hs => hne k hk2 hs)) (fun k hk2 => h.1 k hk2.symm)
def spec_l01Cur_badBlocks.f (k : Nat) (s0_0 : List Int) (s0_1 : Int) (s0_2 : Int) (l1 : List (S26)) : Option ((List (S26)) × Int × Int) := if (l1.length : Int) = 0 then (some (l1, s0_1, s0_2)) else ((spec_l01Cur_pick.f s0_0 s0_1 s0_2 (l1.length : Int)).bind fun bt167 => ((spec_l01Cur_pick.f s0_0 bt167.2.1 bt167.2.2 12).bind fun bt170 => (if bt170.1 = 0 then ((spec_l01Cur_raw.f s0_0 bt170.2.1 bt170.2.2).bind fun bt173 => (if 0 < (l1.length : Int) then ((some (([bt173.1, 255, 256, (rd_T26 l1 0).f0] : List Int) : List Int)).bind fun y177 => ((spec_l01Cur_pick.f s0_0 bt173.2.1 bt173.2.2 4).bind fun bt180 => (if 0 ≤ bt180.1 then (if bt180.1 < (y177.length : Int) then (if 0 ≤ bt167.1 then (if bt167.1 < (l1.length : Int) then (some ((l1.set (bt167.1 : Int).toNat (⟨rd y177 bt180.1, (rd_T26 l1 bt167.1).f1, (rd_T26 l1 bt167.1).f2⟩ : S26)), bt180.2.1, bt180.2.2)) else (none)) else (none)) else (none)) else (none)))) else (none))) else (if bt170.1 = 1 then ((spec_l01Cur_raw.f s0_0 bt170.2.1 bt170.2.2).bind fun bt185 => (if 0 ≤ bt167.1 then (if bt167.1 < (l1.length : Int) then (some ((l1.set (bt167.1 : Int).toNat (⟨(rd_T26 l1 bt167.1).f0, bt185.1, (rd_T26 l1 bt167.1).f2⟩ : S26)), bt185.2.1, bt185.2.2)) else (none)) else (none))) else (if bt170.1 = 2 then ((spec_l01Cur_bytes.f k s0_0 bt170.2.1 bt170.2.2 6).bind fun bt189 => (if 0 ≤ bt167.1 then (if bt167.1 < (l1.length : Int) then (some ((l1.set (bt167.1 : Int).toNat (⟨(rd_T26 l1 bt167.1).f0, (rd_T26 l1 bt167.1).f1, bt189.1⟩ : S26)), bt189.2.1, bt189.2.2)) else (none)) else (none))) else (some (l1, bt170.2.1, bt170.2.2)))))))
theorem spec_l01Cur_badBlocks.mono : ∀ a0 a1 a2 a3 k, LeO (spec_l01Cur_badBlocks.f k a0 a1 a2 a3) (spec_l01Cur_badBlocks.f (k + 1) a0 a1 a2 a3) := by
  intro a0 a1 a2 a3 k
  unfold spec_l01Cur_badBlocks.f
  repeat' first | (with_reducible exact spec_l01Cur_bytes.mono _ _ _ _ _) | (with_reducible exact LeO.refl _) | (with_reducible refine LeO.ite ?_ ?_) | (with_reducible refine LeO.bind ?_ (fun _ => ?_))
def spec_l01Cur_badBlocks.T6 : Bool × List (List Nat × List Nat) := (true, [([], []), ([], []), ([], []), ([2], [2]), ([], []), ([4], [4]), ([5], [5]), ([6], [6]), ([3, 7], [3, 7]), ([], []), ([9, 3], [9]), ([8, 10], [8, 10]), ([11], [11]), ([0, 1, 0, 1, 2, 3, 4, 5, 6, 7, 8, 9, 10, 11, 12], [0, 1]), ([13, 0, 1, 2, 3, 4, 5, 6, 7, 8, 9, 10, 11, 12], [13]), ([14, 12, 10, 0, 1, 2, 3, 4, 5, 6, 7, 8, 9, 10, 11, 12], [12, 14])])
def spec_l01Cur_badBlocks.B6 : List Nat := [0, 0, 0, 4, 0, 16, 48, 112, 252, 0, 524, 2044, 4092, 8191, 16383, 32767]
theorem spec_l01Cur_badBlocks.tab6 : rtab .any (opsOf Try.f55 6) = spec_l01Cur_badBlocks.T6 := by kernel_rfl
theorem spec_l01Cur_badBlocks.bits6 : waitsOk spec_l01Cur_badBlocks.T6.2 spec_l01Cur_badBlocks.B6 = true := by kernel_rfl
set_option maxHeartbeats 8000000 in
set_option maxRecDepth 100000 in
theorem spec_l01Cur_badBlocks.calls (k : Nat) (g : Nat) (s0_0 : List Int) (s0_1 : Int) (s0_2 : Int) (P1_ : Nat → Prop) (u9000_ : Value) (l1 : List (S26)) (r1 : List (S26)) (r2 : Int) (r3 : Int) (w0 w : World) (hI : IsS92 w0 w g s0_0 s0_1 s0_2) (hB : Below w0.heap.size w0 w) (ho1 : Kd.S k26 26 w w0.heap.size P1_ u9000_ l1) (h : spec_l01Cur_badBlocks.f k s0_0 s0_1 s0_2 l1 = some (r1, r2, r3)) :
    Calls Try.prog 55 #[.pointer (some ⟨g, 0, none⟩), u9000_] w fun e w' => ∃ v0_ : Value, e = .returned (v0_) ∧ Kd.S k26 26 w' w0.heap.size (fun k_ => (P1_ k_ ∨ w.heap.size ≤ k_)) v0_ r1 ∧ IsS92 w0 w' g s0_0 r2 r3 ∧ Below w0.heap.size w0 w' ∧ Kept w w' (fun k_ => (P1_ k_) ∨ k_ = g) := by
  have HO1 := Aside0.mk (show Kd.S k26 26 w w0.heap.size (fun k_ => (P1_ k_ ∨ w.heap.size ≤ k_)) u9000_ l1 from Kd.S_mono ho1 (fun k_ hk => (.inl hk)))
  have HI0 := Aside0.mk hI
  have HL := Aside0.mk hB.size
  clear hI
  have HK := Aside0.mk (Kept.refl w (fun k_ => (P1_ k_) ∨ k_ = g))
  have HW0 := Aside0.mk hB.size
  have HB := Aside0.mk hB
  clear hB
  have H : (if (l1.length : Int) = 0 then (some (l1, s0_1, s0_2)) else ((spec_l01Cur_pick.f s0_0 s0_1 s0_2 (l1.length : Int)).bind fun bt167 => ((spec_l01Cur_pick.f s0_0 bt167.2.1 bt167.2.2 12).bind fun bt170 => (if bt170.1 = 0 then ((spec_l01Cur_raw.f s0_0 bt170.2.1 bt170.2.2).bind fun bt173 => (if 0 < (l1.length : Int) then ((some (([bt173.1, 255, 256, (rd_T26 l1 0).f0] : List Int) : List Int)).bind fun y177 => ((spec_l01Cur_pick.f s0_0 bt173.2.1 bt173.2.2 4).bind fun bt180 => (if 0 ≤ bt180.1 then (if bt180.1 < (y177.length : Int) then (if 0 ≤ bt167.1 then (if bt167.1 < (l1.length : Int) then (some ((l1.set (bt167.1 : Int).toNat (⟨rd y177 bt180.1, (rd_T26 l1 bt167.1).f1, (rd_T26 l1 bt167.1).f2⟩ : S26)), bt180.2.1, bt180.2.2)) else (none)) else (none)) else (none)) else (none)))) else (none))) else (if bt170.1 = 1 then ((spec_l01Cur_raw.f s0_0 bt170.2.1 bt170.2.2).bind fun bt185 => (if 0 ≤ bt167.1 then (if bt167.1 < (l1.length : Int) then (some ((l1.set (bt167.1 : Int).toNat (⟨(rd_T26 l1 bt167.1).f0, bt185.1, (rd_T26 l1 bt167.1).f2⟩ : S26)), bt185.2.1, bt185.2.2)) else (none)) else (none))) else (if bt170.1 = 2 then ((spec_l01Cur_bytes.f k s0_0 bt170.2.1 bt170.2.2 6).bind fun bt189 => (if 0 ≤ bt167.1 then (if bt167.1 < (l1.length : Int) then (some ((l1.set (bt167.1 : Int).toNat (⟨(rd_T26 l1 bt167.1).f0, (rd_T26 l1 bt167.1).f1, bt189.1⟩ : S26)), bt189.2.1, bt189.2.2)) else (none)) else (none))) else (some (l1, bt170.2.1, bt170.2.2)))))))) = some (r1, r2, r3) := h
  clear h
  by_cases c3 : (l1.length : Int) = 0
  · rw [if_pos c3] at H
    have c3b0 : ((l1.length : Int) == 0) = true := beq_iff_eq.mpr c3
    have c3b1 : ((l1.length : Int) != 0) = false := bne_eq_false_iff_eq.mpr c3
    clear c3
    simp only [Option.some.injEq, Prod.mk.injEq] at H
    obtain ⟨rfl, rfl, rfl⟩ := H
    obtain ⟨Ao4, co4, eo4⟩ := Kd.S_slice HO1.out
    subst eo4
    go_enter Try.func55, Try.ntmps55
    go_wp2
    go_ret
    exact ⟨_, by rfl, by (with_reducible repeat (first | apply Kd.S_alloc | apply Kd.S_drewN | apply Kd.S_drew)); exact HO1.out, by repeat ((with_reducible exact HI0.out)), by repeat ((with_reducible exact HB.out)), by repeat ((with_reducible exact HK.out))⟩
  · rw [if_neg c3] at H
    have c3b0 : ((l1.length : Int) == 0) = false := beq_eq_false_iff_ne.mpr c3
    have c3b1 : ((l1.length : Int) != 0) = true := bne_iff_ne.mpr c3
    have c3b2 : ¬ (l1 = []) := fun h_ => c3 (by rw [h_]; rfl)
    replace H := Option.bind_eq_some_iff.mp H
    obtain ⟨⟨t167, t168, t169⟩, A50, H⟩ := H
    replace H : ((spec_l01Cur_pick.f s0_0 t168 t169 12).bind fun bt170 => (if bt170.1 = 0 then ((spec_l01Cur_raw.f s0_0 bt170.2.1 bt170.2.2).bind fun bt173 => (if 0 < (l1.length : Int) then ((some (([bt173.1, 255, 256, (rd_T26 l1 0).f0] : List Int) : List Int)).bind fun y177 => ((spec_l01Cur_pick.f s0_0 bt173.2.1 bt173.2.2 4).bind fun bt180 => (if 0 ≤ bt180.1 then (if bt180.1 < (y177.length : Int) then (if 0 ≤ t167 then (if t167 < (l1.length : Int) then (some ((l1.set (t167 : Int).toNat (⟨rd y177 bt180.1, (rd_T26 l1 t167).f1, (rd_T26 l1 t167).f2⟩ : S26)), bt180.2.1, bt180.2.2)) else (none)) else (none)) else (none)) else (none)))) else (none))) else (if bt170.1 = 1 then ((spec_l01Cur_raw.f s0_0 bt170.2.1 bt170.2.2).bind fun bt185 => (if 0 ≤ t167 then (if t167 < (l1.length : Int) then (some ((l1.set (t167 : Int).toNat (⟨(rd_T26 l1 t167).f0, bt185.1, (rd_T26 l1 t167).f2⟩ : S26)), bt185.2.1, bt185.2.2)) else (none)) else (none))) else (if bt170.1 = 2 then ((spec_l01Cur_bytes.f k s0_0 bt170.2.1 bt170.2.2 6).bind fun bt189 => (if 0 ≤ t167 then (if t167 < (l1.length : Int) then (some ((l1.set (t167 : Int).toNat (⟨(rd_T26 l1 t167).f0, (rd_T26 l1 t167).f1, bt189.1⟩ : S26)), bt189.2.1, bt189.2.2)) else (none)) else (none))) else (some (l1, bt170.2.1, bt170.2.2)))))) = some (r1, r2, r3) := H
    have A5 := Aside0.mk A50
    clear A50
    replace H := Option.bind_eq_some_iff.mp H
    obtain ⟨⟨t170, t171, t172⟩, A60, H⟩ := H
    replace H : (if t170 = 0 then ((spec_l01Cur_raw.f s0_0 t171 t172).bind fun bt173 => (if 0 < (l1.length : Int) then ((some (([bt173.1, 255, 256, (rd_T26 l1 0).f0] : List Int) : List Int)).bind fun y177 => ((spec_l01Cur_pick.f s0_0 bt173.2.1 bt173.2.2 4).bind fun bt180 => (if 0 ≤ bt180.1 then (if bt180.1 < (y177.length : Int) then (if 0 ≤ t167 then (if t167 < (l1.length : Int) then (some ((l1.set (t167 : Int).toNat (⟨rd y177 bt180.1, (rd_T26 l1 t167).f1, (rd_T26 l1 t167).f2⟩ : S26)), bt180.2.1, bt180.2.2)) else (none)) else (none)) else (none)) else (none)))) else (none))) else (if t170 = 1 then ((spec_l01Cur_raw.f s0_0 t171 t172).bind fun bt185 => (if 0 ≤ t167 then (if t167 < (l1.length : Int) then (some ((l1.set (t167 : Int).toNat (⟨(rd_T26 l1 t167).f0, bt185.1, (rd_T26 l1 t167).f2⟩ : S26)), bt185.2.1, bt185.2.2)) else (none)) else (none))) else (if t170 = 2 then ((spec_l01Cur_bytes.f k s0_0 t171 t172 6).bind fun bt189 => (if 0 ≤ t167 then (if t167 < (l1.length : Int) then (some ((l1.set (t167 : Int).toNat (⟨(rd_T26 l1 t167).f0, (rd_T26 l1 t167).f1, bt189.1⟩ : S26)), bt189.2.1, bt189.2.2)) else (none)) else (none))) else (some (l1, t171, t172))))) = some (r1, r2, r3) := H
    have A6 := Aside0.mk A60
    clear A60
    by_cases c7 : t170 = 0
    · rw [if_pos c7] at H
      have c7b0 : (t170 == 0) = true := beq_iff_eq.mpr c7
      have c7b1 : (t170 != 0) = false := bne_eq_false_iff_eq.mpr c7
      clear c7
      replace H := Option.bind_eq_some_iff.mp H
      obtain ⟨⟨t173, t174, t175⟩, A80, H⟩ := H
      replace H : (if 0 < (l1.length : Int) then ((some (([t173, 255, 256, (rd_T26 l1 0).f0] : List Int) : List Int)).bind fun y177 => ((spec_l01Cur_pick.f s0_0 t174 t175 4).bind fun bt180 => (if 0 ≤ bt180.1 then (if bt180.1 < (y177.length : Int) then (if 0 ≤ t167 then (if t167 < (l1.length : Int) then (some ((l1.set (t167 : Int).toNat (⟨rd y177 bt180.1, (rd_T26 l1 t167).f1, (rd_T26 l1 t167).f2⟩ : S26)), bt180.2.1, bt180.2.2)) else (none)) else (none)) else (none)) else (none)))) else (none)) = some (r1, r2, r3) := H
      have A8 := Aside0.mk A80
      clear A80
      by_cases c9 : 0 < (l1.length : Int)
      · rw [if_pos c9] at H
        have c9b0 : decide (0 < (l1.length : Int)) = true := decide_eq_true c9
        have c9b1 : decide (0 < l1.length) = true := decide_eq_true (by omega)
        clear c9
        obtain ⟨y177, hy177⟩ : ∃ y_ : List Int, y_ = (([t173, 255, 256, (rd_T26 l1 0).f0] : List Int)) := ⟨_, rfl⟩
        replace H : ((spec_l01Cur_pick.f s0_0 t174 t175 4).bind fun bt180 => (if 0 ≤ bt180.1 then (if bt180.1 < (y177.length : Int) then (if 0 ≤ t167 then (if t167 < (l1.length : Int) then (some ((l1.set (t167 : Int).toNat (⟨rd y177 bt180.1, (rd_T26 l1 t167).f1, (rd_T26 l1 t167).f2⟩ : S26)), bt180.2.1, bt180.2.2)) else (none)) else (none)) else (none)) else (none))) = some (r1, r2, r3) := by (have H2_ := (Option.bind_some _ _).symm.trans H; rw [hy177]; with_reducible exact H2_)
        have Ny177 := Aside0.mk hy177
        clear hy177
        replace H := Option.bind_eq_some_iff.mp H
        obtain ⟨⟨t180, t181, t182⟩, A100, H⟩ := H
        replace H : (if 0 ≤ t180 then (if t180 < (y177.length : Int) then (if 0 ≤ t167 then (if t167 < (l1.length : Int) then (some ((l1.set (t167 : Int).toNat (⟨rd y177 t180, (rd_T26 l1 t167).f1, (rd_T26 l1 t167).f2⟩ : S26)), t181, t182)) else (none)) else (none)) else (none)) else (none)) = some (r1, r2, r3) := H
        have A10 := Aside0.mk A100
        clear A100
        by_cases c11 : 0 ≤ t180
        · rw [if_pos c11] at H
          have c11b0 : decide (0 ≤ t180) = true := decide_eq_true c11
          clear c11
          by_cases c12 : t180 < (y177.length : Int)
          · rw [if_pos c12] at H
            have c12b0 : decide (t180 < (y177.length : Int)) = true := decide_eq_true c12
            clear c12
            by_cases c13 : 0 ≤ t167
            · rw [if_pos c13] at H
              have c13b0 : decide (0 ≤ t167) = true := decide_eq_true c13
              clear c13
              by_cases c14 : t167 < (l1.length : Int)
              · rw [if_pos c14] at H
                have c14b0 : decide (t167 < (l1.length : Int)) = true := decide_eq_true c14
                clear c14
                obtain ⟨y184, hy184⟩ : ∃ y_ : List (S26), y_ = (l1.set (t167 : Int).toNat (⟨rd y177 t180, (rd_T26 l1 t167).f1, (rd_T26 l1 t167).f2⟩ : S26)) := ⟨_, rfl⟩
                replace H : (some (y184, t181, t182)) = some (r1, r2, r3) := by (rw [hy184]; with_reducible exact H)
                have Ny184 := Aside0.mk hy184
                clear hy184
                simp only [Option.some.injEq, Prod.mk.injEq] at H
                obtain ⟨rfl, rfl, rfl⟩ := H
                obtain ⟨Ao16, co16, eo16⟩ := Kd.S_slice HO1.out
                subst eo16
                go_enter Try.func55, Try.ntmps55
                try go_wp2_with (first | ((with_reducible refine gate_callee (f := 82) rfl ?_); refine goesL_ (some 13) rfl rfl Try.func82 (by kernel_rfl) rfl #[.pointer (some ⟨g, 0, none⟩), .int .i64 (l1.length : Int)] rfl (by (try simp only [List.map_toArray, List.map_cons, List.map_nil]); rfl) ?_; (with_reducible refine (spec_l01Cur_pick.calls g s0_0 s0_1 s0_2 (l1.length : Int) t167 t168 t169 w0 _ ?side1 ?side2 A5.out).mono ?_); (case side1 => repeat ((with_reducible exact HI0.out))); (case side2 => repeat ((with_reducible exact HB.out))); rintro e w17 ⟨rfl, hi, hb, hk⟩; refine ⟨_, rfl, ?_⟩; have n0_ := Aside0.mk (Kd.S_mono (Kd.S_keep (IsS92.apartS (show IsS92 w0 _ g s0_0 s0_1 s0_2 from by repeat ((with_reducible exact HI0.out))) (by (with_reducible repeat (first | apply Kd.S_alloc | apply Kd.S_drewN | apply Kd.S_drew)); exact HO1.out) (by decide)) hk (fun _ h => h.2)) (fun _ h => h.1)); have n1_ := Aside0.mk (Kept.of_keep (S := (fun k_ => (P1_ k_) ∨ k_ = g)) (by repeat ((with_reducible exact HK.out))) hk (.inl (.inr rfl))); have n2_ := Aside0.mk (hb); have n3_ := Aside0.mk (hi); clear HO1; clear HK; clear HB; clear HI0; have HO1 := n0_; have HK := n1_; have HB := n2_; have HI0 := n3_; clear n0_ n1_ n2_ n3_; (try clear hb); (try clear hb2); (try clear hk); (try clear hi)) | ((with_reducible refine gate_callee (f := 82) rfl ?_); refine goesL_ (some 15) rfl rfl Try.func82 (by kernel_rfl) rfl #[.pointer (some ⟨g, 0, none⟩), .int .i64 12] rfl (by (try simp only [List.map_toArray, List.map_cons, List.map_nil]); rfl) ?_; (with_reducible refine (spec_l01Cur_pick.calls g s0_0 t168 t169 12 t170 t171 t172 w0 _ ?side1 ?side2 A6.out).mono ?_); (case side1 => repeat ((with_reducible exact HI0.out))); (case side2 => repeat ((with_reducible exact HB.out))); rintro e w18 ⟨rfl, hi, hb, hk⟩; refine ⟨_, rfl, ?_⟩; have n0_ := Aside0.mk (Kd.S_mono (Kd.S_keep (IsS92.apartS (show IsS92 w0 _ g s0_0 t168 t169 from by repeat ((with_reducible exact HI0.out))) (by (with_reducible repeat (first | apply Kd.S_alloc | apply Kd.S_drewN | apply Kd.S_drew)); exact HO1.out) (by decide)) hk (fun _ h => h.2)) (fun _ h => h.1)); have n1_ := Aside0.mk (Kept.of_keep (S := (fun k_ => (P1_ k_) ∨ k_ = g)) (by repeat ((with_reducible exact HK.out))) hk (.inl (.inr rfl))); have n2_ := Aside0.mk (hb); have n3_ := Aside0.mk (hi); clear HO1; clear HK; clear HB; clear HI0; have HO1 := n0_; have HK := n1_; have HB := n2_; have HI0 := n3_; clear n0_ n1_ n2_ n3_; (try clear hb); (try clear hb2); (try clear hk); (try clear hi)))
                have pi183 : (0 ≤ (t180 : Int)) = True := eq_true (of_decide_eq_true (by (with_reducible assumption)))
                have qi183 : (t180 < (y177.length : Int)) = True := eq_true (of_decide_eq_true (by (with_reducible assumption)))
                have n0_ := Aside0.mk (Kd.S_drew HO1.out)
                have n1_ := Aside0.mk (IsS92.drew HI0.out)
                have n2_ := Aside0.mk (Kept.drew HK.out)
                have n3_ := Aside0.mk (below_drew1 HB.out)
                clear HO1
                clear HI0
                clear HK
                clear HB
                have HO1 := n0_
                have HI0 := n1_
                have HK := n2_
                have HB := n3_
                clear n0_ n1_ n2_ n3_
                have p176 : 0 ≤ (0 : Int) := (by omega)
                have q176 : 0 < (l1.length : Int) := of_decide_eq_true (by (with_reducible assumption))
                obtain ⟨ad176, A176_2, c176_2, e176, hx176_0, hx176_1, hx176_2, hl176_2, hi176_2⟩ := at_T26 (Kd.S_reads' HO1.out).2.2 0 p176 q176
                cases e176
                obtain ⟨ce176, hce176, hMe176, hcc176⟩ := Kd.S_get HO1.out z26 0 p176 (by exact q176)
                obtain ⟨ve176_2, rfl, ge176_2⟩ := k26_openM hMe176
                have hv176_2 := hcc176 2 _ rfl
                rw [add_field _ _ 2 (by omega)] at hv176_2
                replace hv176_2 := Option.some.inj (hv176_2.symm.trans hx176_2)
                rw [hv176_2] at ge176_2
                have HL176_2 := Aside0.mk (show Kd.R (Kd.int .u8) 5 _ _ _ _ ((rd_T26 l1 0).f2) from ge176_2)
                clear hv176_2 ge176_2
                clear hcc176 hce176
                have qi176 : (0 < l1.length) = True := eq_true (by omega)
                (try rw [show ((0 : Int)).toNat = 0 from rfl] at hx176_0)
                (try rw [show 0 * 3 = 0 from rfl] at hx176_0)
                (try rw [Addr.add_zero'] at hx176_0)
                (try rw [show ((0 : Int)).toNat = 0 from rfl] at hx176_1)
                (try rw [show 0 * 3 = 0 from rfl] at hx176_1)
                (try rw [Addr.add_zero'] at hx176_1)
                (try rw [show ((0 : Int)).toNat = 0 from rfl] at hx176_2)
                (try rw [show 0 * 3 = 0 from rfl] at hx176_2)
                (try rw [Addr.add_zero'] at hx176_2)
                have HR176_2 := Aside0.mk hi176_2
                have HC176_2 := Aside0.mk hl176_2
                clear hi176_2 hl176_2
                replace p176 := eq_true p176
                replace q176 := eq_true q176
                refine start_ (n := 16) (S := fun w' => w'.cell? ad176 = some (.int .i64 ((rd_T26 l1 0).f0)) ∧ w'.cell? ⟨ad176.block, ad176.off + 1, none⟩ = some (.int .i64 ((rd_T26 l1 0).f1)) ∧ w'.cell? ⟨ad176.block, ad176.off + 2, none⟩ = some (.slice A176_2 ((rd_T26 l1 0).f2).length c176_2)) (ds := [15]) #[false, false, false, false, false, false, false, false, false, false, false, false, false, false, false, false] (by kernel_rfl) rfl rfl ⟨hx176_0, hx176_1, hx176_2⟩ (fun hHeld => ?_); refine with_tabW spec_l01Cur_badBlocks.tab6 spec_l01Cur_badBlocks.bits6 (fun HT_ HW_ => ?_)
                generalize w18.drew = w19 at HO1 HI0 HK HB HL176_2 HR176_2 hx176_0 hx176_1 hx176_2 hHeld ⊢
                refine pure_ (i := 0) (N := some 18) (v := ?_) (a' := ?_) #[true, false, false, false, false, false, false, false, false, false, false, false, false, false, false, false] rfl rfl (any_of HT_.out (by kernel_rfl)) (fun _ _ _ h => h) (Or.inl ⟨by rfl, ?_⟩) ?_ ?_
                rotate_left
                · intro w'
                  go_simp
                  with_reducible rfl
                rotate_left
                · simp only [Act.put, List.setIfInBounds_toArray, List.set_cons_zero, List.set_cons_succ, i64_w, i32_w]
                  rfl
                refine pure_ (i := 1) (N := some 19) (v := ?_) (a' := ?_) #[true, true, false, false, false, false, false, false, false, false, false, false, false, false, false, false] rfl rfl (any_of HT_.out (by kernel_rfl)) (fun _ _ _ h => h) (Or.inl ⟨by rfl, ?_⟩) ?_ ?_
                rotate_left
                · intro w'
                  go_simp
                  with_reducible rfl
                rotate_left
                · simp only [Act.put, List.setIfInBounds_toArray, List.set_cons_zero, List.set_cons_succ, i64_w, i32_w]
                  rfl
                refine pure_ (i := 2) (N := some 20) (v := ?_) (a' := ?_) #[true, true, true, false, false, false, false, false, false, false, false, false, false, false, false, false] rfl rfl (any_of HT_.out (by kernel_rfl)) (fun _ _ _ h => h) (Or.inl ⟨by rfl, ?_⟩) ?_ ?_
                rotate_left
                · intro w'
                  go_simp
                  with_reducible rfl
                rotate_left
                · simp only [Act.put, List.setIfInBounds_toArray, List.set_cons_zero, List.set_cons_succ, i64_w, i32_w]
                  rfl
                refine pure_ (i := 4) (N := some 22) (v := ?_) (a' := ?_) #[true, true, true, false, true, false, false, false, false, false, false, false, false, false, false, false] rfl rfl (any_of HT_.out (by kernel_rfl)) (fun _ _ _ h => h) (Or.inl ⟨by rfl, ?_⟩) ?_ ?_
                rotate_left
                · intro w'
                  go_simp
                  with_reducible rfl
                rotate_left
                · simp only [Act.put, List.setIfInBounds_toArray, List.set_cons_zero, List.set_cons_succ, i64_w, i32_w]
                  rfl
                refine pure_ (i := 5) (N := some 23) (v := ?_) (a' := ?_) #[true, true, true, false, true, true, false, false, false, false, false, false, false, false, false, false] rfl rfl (any_of HT_.out (by kernel_rfl)) (fun _ _ _ h => h) (Or.inl ⟨by rfl, ?_⟩) ?_ ?_
                rotate_left
                · intro w'
                  go_simp
                  with_reducible rfl
                rotate_left
                · simp only [Act.put, List.setIfInBounds_toArray, List.set_cons_zero, List.set_cons_succ, i64_w, i32_w]
                  rfl
                refine pure_ (i := 6) (N := some 24) (v := ?_) (a' := ?_) #[true, true, true, false, true, true, true, false, false, false, false, false, false, false, false, false] rfl rfl (any_of HT_.out (by kernel_rfl)) (fun _ _ _ h => h) (Or.inl ⟨by rfl, ?_⟩) ?_ ?_
                rotate_left
                · intro w'
                  go_simp
                  with_reducible rfl
                rotate_left
                · simp only [Act.put, List.setIfInBounds_toArray, List.set_cons_zero, List.set_cons_succ, i64_w, i32_w]
                  rfl
                refine pure_ (i := 9) (N := some 27) (v := ?_) (a' := ?_) #[true, true, true, false, true, true, true, false, false, true, false, false, false, false, false, false] rfl rfl (any_of HT_.out (by kernel_rfl)) (fun _ _ _ h => h) (Or.inl ⟨by rfl, ?_⟩) ?_ ?_
                rotate_left
                · intro w'
                  go_simp
                  with_reducible rfl
                rotate_left
                · simp only [Act.put, List.setIfInBounds_toArray, List.set_cons_zero, List.set_cons_succ, i64_w, i32_w]
                  rfl
                refine take_ (i := 7) (N := some 25) (v := ?_) (a' := ?_) #[true, true, true, false, true, true, true, true, false, true, false, false, false, false, false, false] rfl rfl (take_ofW HT_.out HW_.out (by kernel_rfl)) (fun _ _ _ h => h) (Or.inl ⟨by rfl, ?_⟩) hHeld ?_ ?_
                rotate_left
                · rintro w' ⟨s0, s1, s2⟩
                  go_simp
                  with_reducible rfl
                rotate_left
                · simp only [Act.put, List.setIfInBounds_toArray, List.set_cons_zero, List.set_cons_succ, i64_w, i32_w]
                  rfl
                refine one_ (i := 3) (N := some 21) #[true, true, true, true, true, true, true, true, false, true, false, false, false, false, false, false] rfl rfl (one_of HT_.out (by kernel_rfl)) (by decide) (fun K hK => ?_)
                refine goes_ Try.func81 (by kernel_rfl) rfl #[.pointer (some ⟨g, 0, none⟩)] (by rfl) rfl rfl (by (try simp only [List.map_toArray, List.map_cons, List.map_nil]); rfl) ?_
                with_reducible refine (spec_l01Cur_raw.calls g s0_0 t171 t172 t173 t174 t175 w0 _ ?side1 ?side2 A8.out).mono ?_
                (case side1 => repeat ((with_reducible exact HI0.out)))
                (case side2 => repeat ((with_reducible exact HB.out)))
                rintro e w20 ⟨rfl, hi, hb, hk⟩
                have HS0_ := keep_cell hk (hHeld.1) (by (show ad176.block ≠ _; exact Kd.own_blk (IsS92.own_neS HI0.out HO1.out (by decide))))
                have HS1_ := keep_cell hk (hHeld.2.1) (by (show ad176.block ≠ _; exact Kd.own_blk (IsS92.own_neS HI0.out HO1.out (by decide))))
                have HS2_ := keep_cell hk (hHeld.2.2) (by (show ad176.block ≠ _; exact Kd.own_blk (IsS92.own_neS HI0.out HO1.out (by decide))))
                refine ⟨_, rfl, ?_⟩
                have n0_ := Aside0.mk (Kd.S_mono (Kd.S_keep (IsS92.apartS (show IsS92 w0 _ g s0_0 t171 t172 from by repeat ((with_reducible exact HI0.out))) (by (with_reducible repeat (first | apply Kd.S_alloc | apply Kd.S_drewN | apply Kd.S_drew)); exact HO1.out) (by decide)) hk (fun _ h => h.2)) (fun _ h => h.1))
                have n1_ := Aside0.mk (Kept.of_keep (S := (fun k_ => (P1_ k_) ∨ k_ = g)) (by repeat ((with_reducible exact HK.out))) hk (.inl (.inr rfl)))
                have n2_ := Aside0.mk (hb)
                have n3_ := Aside0.mk (hi)
                clear HO1
                clear HK
                clear HB
                clear HI0
                have HO1 := n0_
                have HK := n1_
                have HB := n2_
                have HI0 := n3_
                clear n0_ n1_ n2_ n3_
                (try clear hb)
                (try clear hb2)
                (try clear hk)
                (try clear hi)
                refine hK.out _ _ ⟨HS0_, HS1_, HS2_⟩ (fun hHeld => ?_)
                clear hK K
                refine norm_ (a' := ?_) ?_ ?_
                rotate_left
                · show Act.put _ (some 21) _ = _
                  simp only [Act.put, List.setIfInBounds_toArray, List.set_cons_zero, List.set_cons_succ, i64_w, i32_w]
                  rfl
                refine join_ (σ := Value × Addr) 5 #[true, true, true, true, true, true, true, true, true, true, true, false, false, false, false, false] (fun s_ => [(26, s_.1), (28, .int .i64 t180)]) (fun s_ w' => (w'.cell? ad176 = some (.int .i64 ((rd_T26 l1 0).f0)) ∧ w'.cell? ⟨ad176.block, ad176.off + 1, none⟩ = some (.int .i64 ((rd_T26 l1 0).f1)) ∧ w'.cell? ⟨ad176.block, ad176.off + 2, none⟩ = some (.slice A176_2 ((rd_T26 l1 0).f2).length c176_2)) ∧ (True) ∧ (Kd.S k26 26 w' w0.heap.size (fun k_ => (P1_ k_ ∨ w.heap.size ≤ k_)) (.slice (some ad176) l1.length co16) l1) ∧ (Kd.R (Kd.int .i64) 3 w' w0.heap.size (fun k_ => (P1_ k_ ∨ w.heap.size ≤ k_)) s_.1 y177) ∧ (∃ c_, (s_.1 : Value) = .slice (some s_.2) y177.length c_) ∧ (IsS92 w0 w' g s0_0 t181 t182) ∧ (Kept w w' (fun k_ => (P1_ k_) ∨ k_ = g)) ∧ (Below w0.heap.size w0 w')) ?_ ?_
                rotate_left
                · intro hCont
                  refine two_ (i := 8) (j := 10) (Ni := some 26) (Nj := some 28) #[true, true, true, true, true, true, true, true, true, true, false, false, false, false, false, false] #[true, true, true, true, true, true, true, true, false, true, true, false, false, false, false, false] rfl rfl rfl rfl (two_of HT_.out (by kernel_rfl)) (by decide) (by decide) (fun K hK => ?_) (fun K hK => ?_)
                  · skip
                    refine Kd.R_lit_step (Kd.int .i64) _ 3 ?hg (N := 26) ?hd (xs := ([t173, 255, 256, (rd_T26 l1 0).f0] : List Int)) (inner := [.int .i64 t173, .int .i64 255, .int .i64 256, .int .i64 ((rd_T26 l1 0).f0)]) (ok := fun _ => True) (okp := fun _ => True) ?hr ?hp (fun _ hk => hk) trivial (Below.refl _ _) (Nat.le_refl _) (by simp) ?_; (case hd => rfl); (case hg => rfl); (case hr => (go_simp; done)); (case hp => exact (Reps.one (show Kd.M (Kd.int .i64) _ _ _ t173 [.int .i64 t173] from rfl) (Reps.one (show Kd.M (Kd.int .i64) _ _ _ 255 [.int .i64 255] from rfl) (Reps.one (show Kd.M (Kd.int .i64) _ _ _ 256 [.int .i64 256] from rfl) (Reps.one (show Kd.M (Kd.int .i64) _ _ _ ((rd_T26 l1 0).f0) [.int .i64 ((rd_T26 l1 0).f0)] from rfl) (Reps.none _ _))))))
                    intro v178 w21 ho22 hb hg_ hnew_
                    have HS0_ := (hb.cell (World.block_lt_of_cell? _ _ (hHeld.1))).trans (hHeld.1)
                    have HS1_ := (hb.cell (World.block_lt_of_cell? _ _ (hHeld.2.1))).trans (hHeld.2.1)
                    have HS2_ := (hb.cell (World.block_lt_of_cell? _ _ (hHeld.2.2))).trans (hHeld.2.2)
                    clear hg_ hnew_
                    (rw [← Ny177.out] at ho22)
                    have n0_ := Aside0.mk (Kd.S_below (by (with_reducible repeat (first | apply Kd.S_alloc | apply Kd.S_drewN | apply Kd.S_drew)); exact HO1.out) hb)
                    have n1_ := trivial
                    have n2_ := Aside0.mk (Kd.R_lower (Kd.R_newM (M := fun k_ => (P1_ k_ ∨ w.heap.size ≤ k_)) ho22 (by exact HK.out.1) (fun k_ h_ => .inr h_)) (below_size (by repeat ((with_reducible exact HB.out)))))
                    have n3_ := Aside0.mk (IsS92.below (by repeat ((with_reducible exact HI0.out))) hb)
                    have n4_ := trivial
                    have n5_ := Aside0.mk (Kept.below (S := (fun k_ => (P1_ k_) ∨ k_ = g)) (by repeat ((with_reducible exact HK.out))) hb)
                    have n6_ := Aside0.mk (below_step (by repeat ((with_reducible exact HB.out))) hb)
                    clear HO1
                    skip
                    clear HI0
                    skip
                    clear HK
                    clear HB
                    have HO1 := n0_
                    skip
                    have HO179 := n2_
                    have HI0 := n3_
                    skip
                    have HK := n5_
                    have HB := n6_
                    clear n0_ n1_ n2_ n3_ n4_ n5_ n6_
                    clear hb ho22
                    obtain ⟨Ao23, co23, eo23⟩ := Kd.R_slice HO179.out
                    subst eo23
                    obtain ⟨ado23, fo23, _⟩ := Kd.at_int (Kd.R_reads' HO179.out).2.2 0 (by decide) (by rw [Ny177.out]; simp)
                    cases fo23
                    refine hK.out _ _ ⟨HS0_, HS1_, HS2_⟩ (fun hHeld => ?_)
                    clear hK K
                    refine norm_ (a' := ?_) ?_ ?_
                    rotate_left
                    · show Act.put _ (some 26) _ = _
                      simp only [Act.put, List.setIfInBounds_toArray, List.set_cons_zero, List.set_cons_succ, i64_w, i32_w]
                      rfl
                    refine one_ (i := 10) (N := some 28) #[true, true, true, true, true, true, true, true, true, true, true, false, false, false, false, false] rfl rfl (one_of HT_.out (by kernel_rfl)) (by decide) (fun K hK => ?_)
                    refine goes_ Try.func82 (by kernel_rfl) rfl #[.pointer (some ⟨g, 0, none⟩), .int .i64 4] (by rfl) rfl rfl (by (try simp only [List.map_toArray, List.map_cons, List.map_nil]); rfl) ?_
                    with_reducible refine (spec_l01Cur_pick.calls g s0_0 t174 t175 4 t180 t181 t182 w0 _ ?side1 ?side2 A10.out).mono ?_
                    (case side1 => repeat ((with_reducible exact HI0.out)))
                    (case side2 => repeat ((with_reducible exact HB.out)))
                    rintro e w24 ⟨rfl, hi, hb, hk⟩
                    have HS0_ := keep_cell hk (hHeld.1) (by (show ad176.block ≠ _; exact Kd.own_blk (IsS92.own_neS HI0.out HO1.out (by decide))))
                    have HS1_ := keep_cell hk (hHeld.2.1) (by (show ad176.block ≠ _; exact Kd.own_blk (IsS92.own_neS HI0.out HO1.out (by decide))))
                    have HS2_ := keep_cell hk (hHeld.2.2) (by (show ad176.block ≠ _; exact Kd.own_blk (IsS92.own_neS HI0.out HO1.out (by decide))))
                    refine ⟨_, rfl, ?_⟩
                    have n0_ := Aside0.mk (Kd.S_mono (Kd.S_keep (IsS92.apartS (show IsS92 w0 _ g s0_0 t174 t175 from by repeat ((with_reducible exact HI0.out))) (by (with_reducible repeat (first | apply Kd.S_alloc | apply Kd.S_drewN | apply Kd.S_drew)); exact HO1.out) (by decide)) hk (fun _ h => h.2)) (fun _ h => h.1))
                    have n1_ := trivial
                    have n2_ := Aside0.mk (Kd.R_mono (Kd.R_keep (IsS92.apart (show IsS92 w0 _ g s0_0 t174 t175 from by repeat ((with_reducible exact HI0.out))) (by (with_reducible repeat (first | apply Kd.R_alloc | apply Kd.R_drewN | apply Kd.R_drew)); exact HO179.out) (by decide)) hk (fun _ h => h.2)) (fun _ h => h.1))
                    have n3_ := Aside0.mk (Kept.of_keep (S := (fun k_ => (P1_ k_) ∨ k_ = g)) (by repeat ((with_reducible exact HK.out))) hk (.inl (.inr rfl)))
                    have n4_ := Aside0.mk (hb)
                    have n5_ := Aside0.mk (hi)
                    clear HO1
                    skip
                    clear HO179
                    clear HK
                    clear HB
                    clear HI0
                    have HO1 := n0_
                    skip
                    have HO179 := n2_
                    have HK := n3_
                    have HB := n4_
                    have HI0 := n5_
                    clear n0_ n1_ n2_ n3_ n4_ n5_
                    (try clear hb)
                    (try clear hb2)
                    (try clear hk)
                    (try clear hi)
                    refine hK.out _ _ ⟨HS0_, HS1_, HS2_⟩ (fun hHeld => ?_)
                    clear hK K
                    refine norm_ (a' := ?_) ?_ ?_
                    rotate_left
                    · show Act.put _ (some 28) _ = _
                      simp only [Act.put, List.setIfInBounds_toArray, List.set_cons_zero, List.set_cons_succ, i64_w, i32_w]
                      rfl
                    exact norm_ (by simp only [putAll, Act.put, List.setIfInBounds_toArray, List.set_cons_zero, List.set_cons_succ]) (hCont (.slice (some ado23) y177.length co23, ado23) _ ⟨hHeld, trivial, (by (with_reducible repeat (first | apply Kd.S_alloc | apply Kd.S_drewN | apply Kd.S_drew)); exact HO1.out), (by (with_reducible repeat (first | apply Kd.R_alloc | apply Kd.R_drewN | apply Kd.R_drew)); exact Kd.R_mono HO179.out (fun _ hk => by exact hk.1)), ⟨_, rfl⟩, (by repeat ((with_reducible exact HI0.out))), (by repeat ((with_reducible exact HK.out))), (by repeat ((with_reducible exact HB.out)))⟩)
                  · skip
                    refine goes_ Try.func82 (by kernel_rfl) rfl #[.pointer (some ⟨g, 0, none⟩), .int .i64 4] (by rfl) rfl rfl (by (try simp only [List.map_toArray, List.map_cons, List.map_nil]); rfl) ?_
                    with_reducible refine (spec_l01Cur_pick.calls g s0_0 t174 t175 4 t180 t181 t182 w0 _ ?side1 ?side2 A10.out).mono ?_
                    (case side1 => repeat ((with_reducible exact HI0.out)))
                    (case side2 => repeat ((with_reducible exact HB.out)))
                    rintro e w21 ⟨rfl, hi, hb, hk⟩
                    have HS0_ := keep_cell hk (hHeld.1) (by (show ad176.block ≠ _; exact Kd.own_blk (IsS92.own_neS HI0.out HO1.out (by decide))))
                    have HS1_ := keep_cell hk (hHeld.2.1) (by (show ad176.block ≠ _; exact Kd.own_blk (IsS92.own_neS HI0.out HO1.out (by decide))))
                    have HS2_ := keep_cell hk (hHeld.2.2) (by (show ad176.block ≠ _; exact Kd.own_blk (IsS92.own_neS HI0.out HO1.out (by decide))))
                    refine ⟨_, rfl, ?_⟩
                    have n0_ := Aside0.mk (Kd.S_mono (Kd.S_keep (IsS92.apartS (show IsS92 w0 _ g s0_0 t174 t175 from by repeat ((with_reducible exact HI0.out))) (by (with_reducible repeat (first | apply Kd.S_alloc | apply Kd.S_drewN | apply Kd.S_drew)); exact HO1.out) (by decide)) hk (fun _ h => h.2)) (fun _ h => h.1))
                    have n1_ := trivial
                    have n2_ := Aside0.mk (Kept.of_keep (S := (fun k_ => (P1_ k_) ∨ k_ = g)) (by repeat ((with_reducible exact HK.out))) hk (.inl (.inr rfl)))
                    have n3_ := Aside0.mk (hb)
                    have n4_ := Aside0.mk (hi)
                    clear HO1
                    skip
                    clear HK
                    clear HB
                    clear HI0
                    have HO1 := n0_
                    skip
                    have HK := n2_
                    have HB := n3_
                    have HI0 := n4_
                    clear n0_ n1_ n2_ n3_ n4_
                    (try clear hb)
                    (try clear hb2)
                    (try clear hk)
                    (try clear hi)
                    refine hK.out _ _ ⟨HS0_, HS1_, HS2_⟩ (fun hHeld => ?_)
                    clear hK K
                    refine norm_ (a' := ?_) ?_ ?_
                    rotate_left
                    · show Act.put _ (some 28) _ = _
                      simp only [Act.put, List.setIfInBounds_toArray, List.set_cons_zero, List.set_cons_succ, i64_w, i32_w]
                      rfl
                    refine one_ (i := 8) (N := some 26) #[true, true, true, true, true, true, true, true, true, true, true, false, false, false, false, false] rfl rfl (one_of HT_.out (by kernel_rfl)) (by decide) (fun K hK => ?_)
                    refine Kd.R_lit_step (Kd.int .i64) _ 3 ?hg (N := 26) ?hd (xs := ([t173, 255, 256, (rd_T26 l1 0).f0] : List Int)) (inner := [.int .i64 t173, .int .i64 255, .int .i64 256, .int .i64 ((rd_T26 l1 0).f0)]) (ok := fun _ => True) (okp := fun _ => True) ?hr ?hp (fun _ hk => hk) trivial (Below.refl _ _) (Nat.le_refl _) (by simp) ?_; (case hd => rfl); (case hg => rfl); (case hr => (go_simp; done)); (case hp => exact (Reps.one (show Kd.M (Kd.int .i64) _ _ _ t173 [.int .i64 t173] from rfl) (Reps.one (show Kd.M (Kd.int .i64) _ _ _ 255 [.int .i64 255] from rfl) (Reps.one (show Kd.M (Kd.int .i64) _ _ _ 256 [.int .i64 256] from rfl) (Reps.one (show Kd.M (Kd.int .i64) _ _ _ ((rd_T26 l1 0).f0) [.int .i64 ((rd_T26 l1 0).f0)] from rfl) (Reps.none _ _))))))
                    intro v178 w22 ho23 hb hg_ hnew_
                    have HS0_ := (hb.cell (World.block_lt_of_cell? _ _ (hHeld.1))).trans (hHeld.1)
                    have HS1_ := (hb.cell (World.block_lt_of_cell? _ _ (hHeld.2.1))).trans (hHeld.2.1)
                    have HS2_ := (hb.cell (World.block_lt_of_cell? _ _ (hHeld.2.2))).trans (hHeld.2.2)
                    clear hg_ hnew_
                    (rw [← Ny177.out] at ho23)
                    have n0_ := Aside0.mk (Kd.S_below (by (with_reducible repeat (first | apply Kd.S_alloc | apply Kd.S_drewN | apply Kd.S_drew)); exact HO1.out) hb)
                    have n1_ := trivial
                    have n2_ := Aside0.mk (Kd.R_lower (Kd.R_newM (M := fun k_ => (P1_ k_ ∨ w.heap.size ≤ k_)) ho23 (by exact HK.out.1) (fun k_ h_ => .inr h_)) (below_size (by repeat ((with_reducible exact HB.out)))))
                    have n3_ := Aside0.mk (IsS92.below (by repeat ((with_reducible exact HI0.out))) hb)
                    have n4_ := Aside0.mk (Kept.below (S := (fun k_ => (P1_ k_) ∨ k_ = g)) (by repeat ((with_reducible exact HK.out))) hb)
                    have n5_ := Aside0.mk (below_step (by repeat ((with_reducible exact HB.out))) hb)
                    clear HO1
                    skip
                    clear HI0
                    clear HK
                    clear HB
                    have HO1 := n0_
                    skip
                    have HO179 := n2_
                    have HI0 := n3_
                    have HK := n4_
                    have HB := n5_
                    clear n0_ n1_ n2_ n3_ n4_ n5_
                    clear hb ho23
                    obtain ⟨Ao24, co24, eo24⟩ := Kd.R_slice HO179.out
                    subst eo24
                    obtain ⟨ado24, fo24, _⟩ := Kd.at_int (Kd.R_reads' HO179.out).2.2 0 (by decide) (by rw [Ny177.out]; simp)
                    cases fo24
                    refine hK.out _ _ ⟨HS0_, HS1_, HS2_⟩ (fun hHeld => ?_)
                    clear hK K
                    refine norm_ (a' := ?_) ?_ ?_
                    rotate_left
                    · show Act.put _ (some 26) _ = _
                      simp only [Act.put, List.setIfInBounds_toArray, List.set_cons_zero, List.set_cons_succ, i64_w, i32_w]
                      rfl
                    exact norm_ (by simp only [putAll, Act.put, List.setIfInBounds_toArray, List.set_cons_zero, List.set_cons_succ]) (hCont (.slice (some ado24) y177.length co24, ado24) _ ⟨hHeld, trivial, (by (with_reducible repeat (first | apply Kd.S_alloc | apply Kd.S_drewN | apply Kd.S_drew)); exact HO1.out), (by (with_reducible repeat (first | apply Kd.R_alloc | apply Kd.R_drewN | apply Kd.R_drew)); exact Kd.R_mono HO179.out (fun _ hk => by exact hk.1)), ⟨_, rfl⟩, (by repeat ((with_reducible exact HI0.out))), (by repeat ((with_reducible exact HK.out))), (by repeat ((with_reducible exact HB.out)))⟩)
                rintro ⟨v178, adz_v178⟩ w25 ⟨hS_, h0_, h1_, h2_, h3_, h4_, h5_, h6_⟩
                have n0_ := trivial
                have n1_ : Aside0 (Kd.S k26 26 w25 w0.heap.size (fun k_ => (P1_ k_ ∨ w.heap.size ≤ k_)) (.slice (some ad176) l1.length co16) l1) := ⟨h1_⟩
                have n2_ : Aside0 (Kd.R (Kd.int .i64) 3 w25 w0.heap.size (fun k_ => (P1_ k_ ∨ w.heap.size ≤ k_)) v178 y177) := ⟨h2_⟩
                have n3_ : Aside0 (∃ c_, (v178 : Value) = .slice (some adz_v178) y177.length c_) := ⟨h3_⟩
                have n4_ : Aside0 (IsS92 w0 w25 g s0_0 t181 t182) := ⟨h4_⟩
                have n5_ : Aside0 (Kept w w25 (fun k_ => (P1_ k_) ∨ k_ = g)) := ⟨h5_⟩
                have n6_ : Aside0 (Below w0.heap.size w0 w25) := ⟨h6_⟩
                clear HO1
                clear HI0
                clear HK
                clear HB
                clear h0_ h1_ h2_ h3_ h4_ h5_ h6_
                skip
                have HO1 := n1_
                have HO179 := n2_
                have HA_HO179 := n3_
                have HI0 := n4_
                have HK := n5_
                have HB := n6_
                clear n0_ n1_ n2_ n3_ n4_ n5_ n6_
                have hHeld : w25.cell? ad176 = some (.int .i64 ((rd_T26 l1 0).f0)) ∧ w25.cell? ⟨ad176.block, ad176.off + 1, none⟩ = some (.int .i64 ((rd_T26 l1 0).f1)) ∧ w25.cell? ⟨ad176.block, ad176.off + 2, none⟩ = some (.slice A176_2 ((rd_T26 l1 0).f2).length c176_2) := hS_
                obtain ⟨co26, eo26⟩ := HA_HO179.out
                clear HA_HO179
                subst eo26
                have p15 : 0 ≤ (t167 : Int) := of_decide_eq_true (by (with_reducible assumption))
                have q15 : (t167 : Int) < ((l1.length : Int) : Int) := of_decide_eq_true (by (with_reducible assumption))
                obtain ⟨go15, co15, eo15, gb15, gl15, cl15, HG15⟩ := Kd.S_form HO1.out (by omega)
                (cases eo15)
                have GB15 := Aside0.mk gb15
                have GG15 := Aside0.mk HG15
                clear gb15 gl15 HG15
                have HMgo15 := Aside0.mk (show (P1_ go15 ∨ w.heap.size ≤ go15) from ((Kd.S_R HO1.out).1 _ rfl))
                (skip)
                (simp only [add_plain] at hx176_1)
                (simp only [add_plain] at hx176_2)
                obtain ⟨_, ce15, hcl15, hM15, hcc15, hfr15, _, _⟩ := Kd.S_elem HO1.out z26 (t167 : Int) p15 q15
                obtain ⟨ve15_2, rfl, ge15_2⟩ := k26_openM hM15
                have hx15_0 : World.cell? _ ⟨go15, (t167 : Int).toNat * 3, none⟩ = some (.int .i64 ((rd_T26 l1 t167).f0)) := hcc15 0 _ rfl
                have hx15_1 : World.cell? _ ⟨go15, (t167 : Int).toNat * 3 + 1, none⟩ = some (.int .i64 ((rd_T26 l1 t167).f1)) := hcc15 1 _ rfl
                have hx15_2 : World.cell? _ ⟨go15, (t167 : Int).toNat * 3 + 2, none⟩ = some (ve15_2) := hcc15 2 _ rfl
                have hf15_0 : World.frozen? _ ⟨go15, (t167 : Int).toNat * 3, none⟩ = false := hfr15 0
                have hf15_1 : World.frozen? _ ⟨go15, (t167 : Int).toNat * 3 + 1, none⟩ = false := hfr15 1
                have hf15_2 : World.frozen? _ ⟨go15, (t167 : Int).toNat * 3 + 2, none⟩ = false := hfr15 2
                clear hcl15 hcc15 hfr15 hM15
                replace p15 := eq_true p15
                replace q15 := eq_true q15
                have HN0_go15 := Aside0.mk (show g ≠ go15 from by have h_ := IsS92.own_neS HI0.out HO1.out (by decide); intro e_; exact h_ (by rw [e_]; rfl))
                have HX27 := Aside0.mk (show Kd.S k26 26 w25 w0.heap.size (fun k_ => ((fun k_ => (P1_ k_ ∨ w.heap.size ≤ k_))) k_ ∧ ¬ (fun _ => False) k_) (.slice (some ⟨go15, 0, none⟩) l1.length co16) l1 from (by (with_reducible repeat (first | apply Kd.S_alloc | apply Kd.S_drewN | apply Kd.S_drew)); exact Kd.S_mono HO1.out (fun k_ hk => ⟨hk, fun e_ => e_⟩)))
                obtain ⟨oki27, ce27, hcl27, hM27, hcc27, hfr27, hoki27, hH27⟩ := Kd.S_elem HX27.out z26 (t167 : Int) (of_decide_eq_true (by (with_reducible assumption))) (by have h_ : (t167 : Int) < ((l1.length : Int) : Int) := of_decide_eq_true (by (with_reducible assumption)); exact h_)
                obtain ⟨ve27_2, rfl, ge27_2⟩ := k26_openM hM27
                have HP27 := (Kd.S_seg hH27 (of_decide_eq_true (by (with_reducible assumption))) (by have h_ : (t167 : Int) < ((l1.length : Int) : Int) := of_decide_eq_true (by (with_reducible assumption)); exact h_) (seg := [.int .i64 (rd y177 t180)]) (j := 0) (show 1 ≤ 3 from by decide) (x' := (⟨rd y177 t180, (rd_T26 l1 t167).f1, (rd_T26 l1 t167).f2⟩ : S26)) (k26_mkM _ _ _ (⟨rd y177 t180, (rd_T26 l1 t167).f1, (rd_T26 l1 t167).f2⟩ : S26) ge27_2) (fun _ hk => Or.inl hk) (fun _ hk => hk.elim)).1
                rw [← Ny184.out] at HP27
                have HQ27 := Aside0.mk HP27
                clear hcl27 hcc27 hfr27 hM27 HP27
                refine norm_ (a' := ?_) ?_ ?_
                rotate_left
                · simp only [putAll, Act.put, List.setIfInBounds_toArray, List.set_cons_zero, List.set_cons_succ]
                  rfl
                refine pure_ (i := 11) (N := some 29) (v := ?_) (a' := ?_) #[true, true, true, true, true, true, true, true, true, true, true, true, false, false, false, false] rfl rfl (any_of HT_.out (by kernel_rfl)) (fun _ _ _ h => h) (Or.inl ⟨by rfl, ?_⟩) ?_ ?_
                rotate_left
                · intro w'
                  go_simp
                  with_reducible rfl
                rotate_left
                · simp only [Act.put, List.setIfInBounds_toArray, List.set_cons_zero, List.set_cons_succ, i64_w, i32_w]
                  rfl
                refine one_ (i := 12) (N := some 30) #[true, true, true, true, true, true, true, true, true, true, true, true, true, false, false, false] rfl rfl (one_of HT_.out (by kernel_rfl)) (by decide) (fun K hK => ?_)
                (have p183 : 0 ≤ (t180 : Int) := of_decide_eq_true (by (with_reducible assumption)); have q183 : t180 < (y177.length : Int) := of_decide_eq_true (by (with_reducible assumption)); obtain ⟨ad183, e183, hx183_0⟩ := Kd.at_int (Kd.R_reads' HO179.out).2.2 t180 p183 q183; obtain rfl : adz_v178 = ad183 := (by injection e183))
                refine value_ (w1 := ?_) (v := ?_) (by rfl) rfl ?_ ?_
                rotate_left 2
                · go_simp
                  constructor
                  · rfl
                  · rfl
                clear hx183_0
                refine hK.out _ _ ⟨hHeld.1, hHeld.2.1, hHeld.2.2⟩ (fun hHeld => ?_)
                clear hK K
                refine norm_ (a' := ?_) ?_ ?_
                rotate_left
                · show Act.put _ (some 30) _ = _
                  simp only [Act.put, List.setIfInBounds_toArray, List.set_cons_zero, List.set_cons_succ, i64_w, i32_w]
                  rfl
                refine pure_ (i := 13) (N := some 31) (v := ?_) (a' := ?_) #[true, true, true, true, true, true, true, true, true, true, true, true, true, true, false, false] rfl rfl (any_of HT_.out (by kernel_rfl)) (fun _ _ _ h => h) (Or.inl ⟨by rfl, ?_⟩) ?_ ?_
                rotate_left
                · intro w'
                  go_simp
                  with_reducible rfl
                rotate_left
                · simp only [Act.put, List.setIfInBounds_toArray, List.set_cons_zero, List.set_cons_succ, i64_w, i32_w]
                  rfl
                refine pure_ (i := 14) (N := some 32) (v := ?_) (a' := ?_) #[true, true, true, true, true, true, true, true, true, true, true, true, true, true, true, false] rfl rfl (any_of HT_.out (by kernel_rfl)) (fun _ _ _ h => h) (Or.inl ⟨by rfl, ?_⟩) ?_ ?_
                rotate_left
                · intro w'
                  go_simp
                  with_reducible rfl
                rotate_left
                · simp only [Act.put, List.setIfInBounds_toArray, List.set_cons_zero, List.set_cons_succ, i64_w, i32_w]
                  rfl
                refine last_ (i := 15) (N := none) #[true, true, true, true, true, true, true, true, true, true, true, true, true, true, true, true] rfl rfl (one_of HT_.out (by kernel_rfl)) (by decide) (fun K hK => ?_)
                refine skip_ (w1 := ?_) (by rfl) rfl ?_ ?_
                rotate_left
                · go_simp
                  rfl
                refine hK.out _ _ ?_
                clear hK K
                refine done_ (done_of HT_.out (by kernel_rfl)) ?_
                try go_wp2
                go_ret
                exact ⟨_, by rfl, by (with_reducible repeat (first | apply Kd.S_alloc | apply Kd.S_drewN | apply Kd.S_drew)); exact HQ27.out, by repeat ((with_reducible first | exact HI0.out | refine IsS92.far ?_ HN0_go15.out _)), by repeat ((with_reducible first | exact HB.out | refine below_set ?_ GB15.out)), by repeat ((with_reducible first | exact HK.out | refine Kept.setCell ?_ (Or.imp_left Or.inl HMgo15.out) _))⟩
              · rw [if_neg c14] at H
                exact absurd H (by simp)
            · rw [if_neg c13] at H
              exact absurd H (by simp)
          · rw [if_neg c12] at H
            exact absurd H (by simp)
        · rw [if_neg c11] at H
          exact absurd H (by simp)
      · rw [if_neg c9] at H
        exact absurd H (by simp)
    · rw [if_neg c7] at H
      have c7b0 : (t170 == 0) = false := beq_eq_false_iff_ne.mpr c7
      have c7b1 : (t170 != 0) = true := bne_iff_ne.mpr c7
      by_cases c28 : t170 = 1
      · rw [if_pos c28] at H
        have c28b0 : (t170 == 1) = true := beq_iff_eq.mpr c28
        have c28b1 : (t170 != 1) = false := bne_eq_false_iff_eq.mpr c28
        clear c28
        replace H := Option.bind_eq_some_iff.mp H
        obtain ⟨⟨t185, t186, t187⟩, A290, H⟩ := H
        replace H : (if 0 ≤ t167 then (if t167 < (l1.length : Int) then (some ((l1.set (t167 : Int).toNat (⟨(rd_T26 l1 t167).f0, t185, (rd_T26 l1 t167).f2⟩ : S26)), t186, t187)) else (none)) else (none)) = some (r1, r2, r3) := H
        have A29 := Aside0.mk A290
        clear A290
        by_cases c30 : 0 ≤ t167
        · rw [if_pos c30] at H
          have c30b0 : decide (0 ≤ t167) = true := decide_eq_true c30
          clear c30
          by_cases c31 : t167 < (l1.length : Int)
          · rw [if_pos c31] at H
            have c31b0 : decide (t167 < (l1.length : Int)) = true := decide_eq_true c31
            clear c31
            obtain ⟨y188, hy188⟩ : ∃ y_ : List (S26), y_ = (l1.set (t167 : Int).toNat (⟨(rd_T26 l1 t167).f0, t185, (rd_T26 l1 t167).f2⟩ : S26)) := ⟨_, rfl⟩
            replace H : (some (y188, t186, t187)) = some (r1, r2, r3) := by (rw [hy188]; with_reducible exact H)
            have Ny188 := Aside0.mk hy188
            clear hy188
            simp only [Option.some.injEq, Prod.mk.injEq] at H
            obtain ⟨rfl, rfl, rfl⟩ := H
            obtain ⟨Ao33, co33, eo33⟩ := Kd.S_slice HO1.out
            subst eo33
            go_enter Try.func55, Try.ntmps55
            go_wp2_with (first | ((with_reducible refine gate_callee (f := 82) rfl ?_); refine goesL_ (some 13) rfl rfl Try.func82 (by kernel_rfl) rfl #[.pointer (some ⟨g, 0, none⟩), .int .i64 (l1.length : Int)] rfl (by (try simp only [List.map_toArray, List.map_cons, List.map_nil]); rfl) ?_; (with_reducible refine (spec_l01Cur_pick.calls g s0_0 s0_1 s0_2 (l1.length : Int) t167 t168 t169 w0 _ ?side1 ?side2 A5.out).mono ?_); (case side1 => repeat ((with_reducible exact HI0.out))); (case side2 => repeat ((with_reducible exact HB.out))); rintro e w34 ⟨rfl, hi, hb, hk⟩; refine ⟨_, rfl, ?_⟩; have n0_ := Aside0.mk (Kd.S_mono (Kd.S_keep (IsS92.apartS (show IsS92 w0 _ g s0_0 s0_1 s0_2 from by repeat ((with_reducible exact HI0.out))) (by (with_reducible repeat (first | apply Kd.S_alloc | apply Kd.S_drewN | apply Kd.S_drew)); exact HO1.out) (by decide)) hk (fun _ h => h.2)) (fun _ h => h.1)); have n1_ := Aside0.mk (Kept.of_keep (S := (fun k_ => (P1_ k_) ∨ k_ = g)) (by repeat ((with_reducible exact HK.out))) hk (.inl (.inr rfl))); have n2_ := Aside0.mk (hb); have n3_ := Aside0.mk (hi); clear HO1; clear HK; clear HB; clear HI0; have HO1 := n0_; have HK := n1_; have HB := n2_; have HI0 := n3_; clear n0_ n1_ n2_ n3_; (try clear hb); (try clear hb2); (try clear hk); (try clear hi)) | ((with_reducible refine gate_callee (f := 82) rfl ?_); refine goesL_ (some 15) rfl rfl Try.func82 (by kernel_rfl) rfl #[.pointer (some ⟨g, 0, none⟩), .int .i64 12] rfl (by (try simp only [List.map_toArray, List.map_cons, List.map_nil]); rfl) ?_; (with_reducible refine (spec_l01Cur_pick.calls g s0_0 t168 t169 12 t170 t171 t172 w0 _ ?side1 ?side2 A6.out).mono ?_); (case side1 => repeat ((with_reducible exact HI0.out))); (case side2 => repeat ((with_reducible exact HB.out))); rintro e w35 ⟨rfl, hi, hb, hk⟩; refine ⟨_, rfl, ?_⟩; have n0_ := Aside0.mk (Kd.S_mono (Kd.S_keep (IsS92.apartS (show IsS92 w0 _ g s0_0 t168 t169 from by repeat ((with_reducible exact HI0.out))) (by (with_reducible repeat (first | apply Kd.S_alloc | apply Kd.S_drewN | apply Kd.S_drew)); exact HO1.out) (by decide)) hk (fun _ h => h.2)) (fun _ h => h.1)); have n1_ := Aside0.mk (Kept.of_keep (S := (fun k_ => (P1_ k_) ∨ k_ = g)) (by repeat ((with_reducible exact HK.out))) hk (.inl (.inr rfl))); have n2_ := Aside0.mk (hb); have n3_ := Aside0.mk (hi); clear HO1; clear HK; clear HB; clear HI0; have HO1 := n0_; have HK := n1_; have HB := n2_; have HI0 := n3_; clear n0_ n1_ n2_ n3_; (try clear hb); (try clear hb2); (try clear hk); (try clear hi)) | ((with_reducible refine gate_callee (f := 81) rfl ?_); refine goesL_ (some 38) rfl rfl Try.func81 (by kernel_rfl) rfl #[.pointer (some ⟨g, 0, none⟩)] rfl (by (try simp only [List.map_toArray, List.map_cons, List.map_nil]); rfl) ?_; (with_reducible refine (spec_l01Cur_raw.calls g s0_0 t171 t172 t185 t186 t187 w0 _ ?side1 ?side2 A29.out).mono ?_); (case side1 => repeat ((with_reducible exact HI0.out))); (case side2 => repeat ((with_reducible exact HB.out))); rintro e w36 ⟨rfl, hi, hb, hk⟩; refine ⟨_, rfl, ?_⟩; have n0_ := Aside0.mk (Kd.S_mono (Kd.S_keep (IsS92.apartS (show IsS92 w0 _ g s0_0 t171 t172 from by repeat ((with_reducible exact HI0.out))) (by (with_reducible repeat (first | apply Kd.S_alloc | apply Kd.S_drewN | apply Kd.S_drew)); exact HO1.out) (by decide)) hk (fun _ h => h.2)) (fun _ h => h.1)); have n1_ := Aside0.mk (Kept.of_keep (S := (fun k_ => (P1_ k_) ∨ k_ = g)) (by repeat ((with_reducible exact HK.out))) hk (.inl (.inr rfl))); have n2_ := Aside0.mk (hb); have n3_ := Aside0.mk (hi); clear HO1; clear HK; clear HB; clear HI0; have HO1 := n0_; have HK := n1_; have HB := n2_; have HI0 := n3_; clear n0_ n1_ n2_ n3_; (try clear hb); (try clear hb2); (try clear hk); (try clear hi); have p32 : 0 ≤ (t167 : Int) := of_decide_eq_true (by (with_reducible assumption)); have q32 : (t167 : Int) < ((l1.length : Int) : Int) := of_decide_eq_true (by (with_reducible assumption)); obtain ⟨go32, co32, eo32, gb32, gl32, cl32, HG32⟩ := Kd.S_form HO1.out (by omega); (cases eo32); have GB32 := Aside0.mk gb32; have GG32 := Aside0.mk HG32; clear gb32 gl32 HG32; have HMgo32 := Aside0.mk (show (P1_ go32 ∨ w.heap.size ≤ go32) from ((Kd.S_R HO1.out).1 _ rfl)); obtain ⟨_, ce32, hcl32, hM32, hcc32, hfr32, _, _⟩ := Kd.S_elem HO1.out z26 (t167 : Int) p32 q32; obtain ⟨ve32_2, rfl, ge32_2⟩ := k26_openM hM32; have hx32_0 : w36.cell? ⟨go32, (t167 : Int).toNat * 3, none⟩ = some (.int .i64 ((rd_T26 l1 t167).f0)) := hcc32 0 _ rfl; have hx32_1 : w36.cell? ⟨go32, (t167 : Int).toNat * 3 + 1, none⟩ = some (.int .i64 ((rd_T26 l1 t167).f1)) := hcc32 1 _ rfl; have hx32_2 : w36.cell? ⟨go32, (t167 : Int).toNat * 3 + 2, none⟩ = some (ve32_2) := hcc32 2 _ rfl; have hf32_0 : w36.frozen? ⟨go32, (t167 : Int).toNat * 3, none⟩ = false := hfr32 0; have hf32_1 : w36.frozen? ⟨go32, (t167 : Int).toNat * 3 + 1, none⟩ = false := hfr32 1; have hf32_2 : w36.frozen? ⟨go32, (t167 : Int).toNat * 3 + 2, none⟩ = false := hfr32 2; clear hcl32 hcc32 hfr32 hM32; replace p32 := eq_true p32; replace q32 := eq_true q32; have HX37 := Aside0.mk (show Kd.S k26 26 w36 w0.heap.size (fun k_ => ((fun k_ => (P1_ k_ ∨ w.heap.size ≤ k_))) k_ ∧ ¬ ((fun _ => False)) k_) (.slice (some ⟨go32, 0, none⟩) l1.length co33) l1 from (by (with_reducible repeat (first | apply Kd.S_alloc | apply Kd.S_drewN | apply Kd.S_drew)); exact Kd.S_mono HO1.out (fun k_ hk => ⟨hk, fun e_ => e_⟩))); obtain ⟨oki37, ce37, hcl37, hM37, hcc37, hfr37, hoki37, hH37⟩ := Kd.S_elem HX37.out z26 (t167 : Int) (of_decide_eq_true (by (with_reducible assumption))) (by have h_ : (t167 : Int) < ((l1.length : Int) : Int) := of_decide_eq_true (by (with_reducible assumption)); exact h_); obtain ⟨ve37_2, rfl, ge37_2⟩ := k26_openM hM37; have HP37 := Kd.S_seg hH37 (of_decide_eq_true (by (with_reducible assumption))) (by have h_ : (t167 : Int) < ((l1.length : Int) : Int) := of_decide_eq_true (by (with_reducible assumption)); exact h_) (seg := [.int .i64 t185]) (j := 1) (show 2 ≤ 3 from by decide) (x' := (⟨(rd_T26 l1 t167).f0, t185, (rd_T26 l1 t167).f2⟩ : S26)) (k26_mkM _ _ _ (⟨(rd_T26 l1 t167).f0, t185, (rd_T26 l1 t167).f2⟩ : S26) (Kd.R_mono ge37_2 (fun _ h_ => Or.inl h_))) (fun _ hk => hk) (fun k_ hk_ => hk_.elim); have hx37_1 := hcc37 1 _ rfl; (try simp only [show (k26).sz = 3 from rfl, Nat.mul_one, Nat.add_zero] at hx37_1); have hf37_1 := hfr37 1; (try simp only [show (k26).sz = 3 from rfl, Nat.mul_one, Nat.add_zero] at hf37_1); clear hcl37 hcc37 hfr37 hM37 hoki37 hH37) | ((with_reducible refine gate_store (t := 3) (p := 40) rfl ?_); refine store_event (t := 3) (p := 40) (v := ?vo_w38) (w1 := (w36.setCell ⟨go32, (t167 : Int).toNat * 3 + 1, none⟩ (.int .i64 t185))) ?hg ?ho ?hn ?hr ?_; (case ho => rfl); (case hg => rfl); (case hn => rfl); (case hr => (go_simp; done)); intro w38 hw; have hg : w36.grownBy w38 (some go32) := (by rw [hw]; exact HP37.2); have hp_ : Kd.S k26 26 w38 w0.heap.size (fun k_ => (P1_ k_ ∨ w.heap.size ≤ k_)) (.slice (some ⟨go32, 0, none⟩) l1.length co33) y188 := (by rw [hw, Ny188.out]; exact HP37.1); clear HP37; have n0_ := Aside0.mk (IsS92.grown (by repeat ((with_reducible exact HI0.out))) hg (IsS92.own_neS HI0.out HO1.out (by decide))); have n1_ := Aside0.mk (hp_); have n2_ := Aside0.mk ((by rw [hw]; exact below_set (HB.out) GB32.out : Below w0.heap.size w0 w38)); have n3_ := Aside0.mk (Kept.of_grown (S := (fun k_ => (P1_ k_) ∨ k_ = g)) hg (by repeat ((with_reducible exact HK.out))) (fun k_ e_ => Or.imp_left Or.inl (((Kd.S_R HO1.out).1 k_ e_)))); clear HI0; clear HO1; clear HB; clear HK; have HI0 := n0_; have HO1 := n1_; have HB := n2_; have HK := n3_; clear n0_ n1_ n2_ n3_; clear hg hw hp_))
            go_ret
            exact ⟨_, by rfl, by (with_reducible repeat (first | apply Kd.S_alloc | apply Kd.S_drewN | apply Kd.S_drew)); exact HO1.out, by repeat ((with_reducible exact HI0.out)), by repeat ((with_reducible exact HB.out)), by repeat ((with_reducible exact HK.out))⟩
          · rw [if_neg c31] at H
            exact absurd H (by simp)
        · rw [if_neg c30] at H
          exact absurd H (by simp)
      · rw [if_neg c28] at H
        have c28b0 : (t170 == 1) = false := beq_eq_false_iff_ne.mpr c28
        have c28b1 : (t170 != 1) = true := bne_iff_ne.mpr c28
        by_cases c39 : t170 = 2
        · rw [if_pos c39] at H
          have c39b0 : (t170 == 2) = true := beq_iff_eq.mpr c39
          have c39b1 : (t170 != 2) = false := bne_eq_false_iff_eq.mpr c39
          clear c39
          replace H := Option.bind_eq_some_iff.mp H
          obtain ⟨⟨t189, t192, t193⟩, A400, H⟩ := H
          replace H : (if 0 ≤ t167 then (if t167 < (l1.length : Int) then (some ((l1.set (t167 : Int).toNat (⟨(rd_T26 l1 t167).f0, (rd_T26 l1 t167).f1, t189⟩ : S26)), t192, t193)) else (none)) else (none)) = some (r1, r2, r3) := H
          have A40 := Aside0.mk A400
          clear A400
          by_cases c41 : 0 ≤ t167
          · rw [if_pos c41] at H
            have c41b0 : decide (0 ≤ t167) = true := decide_eq_true c41
            clear c41
            by_cases c42 : t167 < (l1.length : Int)
            · rw [if_pos c42] at H
              have c42b0 : decide (t167 < (l1.length : Int)) = true := decide_eq_true c42
              clear c42
              obtain ⟨y194, hy194⟩ : ∃ y_ : List (S26), y_ = (l1.set (t167 : Int).toNat (⟨(rd_T26 l1 t167).f0, (rd_T26 l1 t167).f1, t189⟩ : S26)) := ⟨_, rfl⟩
              replace H : (some (y194, t192, t193)) = some (r1, r2, r3) := by (rw [hy194]; with_reducible exact H)
              have Ny194 := Aside0.mk hy194
              clear hy194
              simp only [Option.some.injEq, Prod.mk.injEq] at H
              obtain ⟨rfl, rfl, rfl⟩ := H
              obtain ⟨Ao44, co44, eo44⟩ := Kd.S_slice HO1.out
              subst eo44
              go_enter Try.func55, Try.ntmps55
              go_wp2_with (first | ((with_reducible refine gate_callee (f := 82) rfl ?_); refine goesL_ (some 13) rfl rfl Try.func82 (by kernel_rfl) rfl #[.pointer (some ⟨g, 0, none⟩), .int .i64 (l1.length : Int)] rfl (by (try simp only [List.map_toArray, List.map_cons, List.map_nil]); rfl) ?_; (with_reducible refine (spec_l01Cur_pick.calls g s0_0 s0_1 s0_2 (l1.length : Int) t167 t168 t169 w0 _ ?side1 ?side2 A5.out).mono ?_); (case side1 => repeat ((with_reducible exact HI0.out))); (case side2 => repeat ((with_reducible exact HB.out))); rintro e w45 ⟨rfl, hi, hb, hk⟩; refine ⟨_, rfl, ?_⟩; have n0_ := Aside0.mk (Kd.S_mono (Kd.S_keep (IsS92.apartS (show IsS92 w0 _ g s0_0 s0_1 s0_2 from by repeat ((with_reducible exact HI0.out))) (by (with_reducible repeat (first | apply Kd.S_alloc | apply Kd.S_drewN | apply Kd.S_drew)); exact HO1.out) (by decide)) hk (fun _ h => h.2)) (fun _ h => h.1)); have n1_ := Aside0.mk (Kept.of_keep (S := (fun k_ => (P1_ k_) ∨ k_ = g)) (by repeat ((with_reducible exact HK.out))) hk (.inl (.inr rfl))); have n2_ := Aside0.mk (hb); have n3_ := Aside0.mk (hi); clear HO1; clear HK; clear HB; clear HI0; have HO1 := n0_; have HK := n1_; have HB := n2_; have HI0 := n3_; clear n0_ n1_ n2_ n3_; (try clear hb); (try clear hb2); (try clear hk); (try clear hi)) | ((with_reducible refine gate_callee (f := 82) rfl ?_); refine goesL_ (some 15) rfl rfl Try.func82 (by kernel_rfl) rfl #[.pointer (some ⟨g, 0, none⟩), .int .i64 12] rfl (by (try simp only [List.map_toArray, List.map_cons, List.map_nil]); rfl) ?_; (with_reducible refine (spec_l01Cur_pick.calls g s0_0 t168 t169 12 t170 t171 t172 w0 _ ?side1 ?side2 A6.out).mono ?_); (case side1 => repeat ((with_reducible exact HI0.out))); (case side2 => repeat ((with_reducible exact HB.out))); rintro e w46 ⟨rfl, hi, hb, hk⟩; refine ⟨_, rfl, ?_⟩; have n0_ := Aside0.mk (Kd.S_mono (Kd.S_keep (IsS92.apartS (show IsS92 w0 _ g s0_0 t168 t169 from by repeat ((with_reducible exact HI0.out))) (by (with_reducible repeat (first | apply Kd.S_alloc | apply Kd.S_drewN | apply Kd.S_drew)); exact HO1.out) (by decide)) hk (fun _ h => h.2)) (fun _ h => h.1)); have n1_ := Aside0.mk (Kept.of_keep (S := (fun k_ => (P1_ k_) ∨ k_ = g)) (by repeat ((with_reducible exact HK.out))) hk (.inl (.inr rfl))); have n2_ := Aside0.mk (hb); have n3_ := Aside0.mk (hi); clear HO1; clear HK; clear HB; clear HI0; have HO1 := n0_; have HK := n1_; have HB := n2_; have HI0 := n3_; clear n0_ n1_ n2_ n3_; (try clear hb); (try clear hb2); (try clear hk); (try clear hi)) | ((with_reducible refine gate_callee (f := 83) rfl ?_); refine goesL_ (some 46) rfl rfl Try.func83 (by kernel_rfl) rfl #[.pointer (some ⟨g, 0, none⟩), .int .i64 6] rfl (by (try simp only [List.map_toArray, List.map_cons, List.map_nil]); rfl) ?_; (with_reducible refine (spec_l01Cur_bytes.calls k g s0_0 t171 t172 6 t189 t192 t193 w0 _ ?side1 ?side2 A40.out).mono ?_); (case side1 => repeat ((with_reducible exact HI0.out))); (case side2 => repeat ((with_reducible exact HB.out))); rintro e w47 ⟨v190, rfl, ho0, hi, hb, hk⟩; refine ⟨_, rfl, ?_⟩; obtain ⟨Av_, cv_, ev_⟩ := Kd.R_slice ho0; subst ev_; have n0_ := Aside0.mk (Kd.S_mono (Kd.S_told (Kd.S_oldK (IsS92.apartS (show IsS92 w0 _ g s0_0 t171 t172 from by repeat ((with_reducible exact HI0.out))) (by (with_reducible repeat (first | apply Kd.S_alloc | apply Kd.S_drewN | apply Kd.S_drew)); exact HO1.out) (by decide)) hk) (Kd.R_base ho0)) (fun _ h_ => h_.1)); have n1_ := Aside0.mk (Kd.R_lower (Kd.R_newM (M := fun k_ => (P1_ k_ ∨ w.heap.size ≤ k_)) ho0 (by exact HK.out.1) (fun k_ h_ => .inr h_)) (below_size (by repeat ((with_reducible exact HB.out))))); have n2_ := Aside0.mk (Kept.of_keep (S := (fun k_ => (P1_ k_) ∨ k_ = g)) (by repeat ((with_reducible exact HK.out))) hk (.inl (.inr rfl))); have n3_ := Aside0.mk (hb); have n4_ := Aside0.mk (hi); clear HO1; clear HK; clear HB; clear HI0; have HO1 := n0_; have HO191 := n1_; have HK := n2_; have HB := n3_; have HI0 := n4_; clear n0_ n1_ n2_ n3_ n4_; (try clear hb); (try clear hb2); (try clear hk); (try clear hi); (try clear ho0); have p43 : 0 ≤ (t167 : Int) := of_decide_eq_true (by (with_reducible assumption)); have q43 : (t167 : Int) < ((l1.length : Int) : Int) := of_decide_eq_true (by (with_reducible assumption)); obtain ⟨go43, co43, eo43, gb43, gl43, cl43, HG43⟩ := Kd.S_form HO1.out (by omega); (cases eo43); have GB43 := Aside0.mk gb43; have GG43 := Aside0.mk HG43; clear gb43 gl43 HG43; have HMgo43 := Aside0.mk (show (P1_ go43 ∨ w.heap.size ≤ go43) from ((Kd.S_R HO1.out).1 _ rfl).1); obtain ⟨_, ce43, hcl43, hM43, hcc43, hfr43, _, _⟩ := Kd.S_elem HO1.out z26 (t167 : Int) p43 q43; obtain ⟨ve43_2, rfl, ge43_2⟩ := k26_openM hM43; have hx43_0 : w47.cell? ⟨go43, (t167 : Int).toNat * 3, none⟩ = some (.int .i64 ((rd_T26 l1 t167).f0)) := hcc43 0 _ rfl; have hx43_1 : w47.cell? ⟨go43, (t167 : Int).toNat * 3 + 1, none⟩ = some (.int .i64 ((rd_T26 l1 t167).f1)) := hcc43 1 _ rfl; have hx43_2 : w47.cell? ⟨go43, (t167 : Int).toNat * 3 + 2, none⟩ = some (ve43_2) := hcc43 2 _ rfl; have hf43_0 : w47.frozen? ⟨go43, (t167 : Int).toNat * 3, none⟩ = false := hfr43 0; have hf43_1 : w47.frozen? ⟨go43, (t167 : Int).toNat * 3 + 1, none⟩ = false := hfr43 1; have hf43_2 : w47.frozen? ⟨go43, (t167 : Int).toNat * 3 + 2, none⟩ = false := hfr43 2; clear hcl43 hcc43 hfr43 hM43; replace p43 := eq_true p43; replace q43 := eq_true q43; have HX48 := Aside0.mk (show Kd.S k26 26 w47 w0.heap.size (fun k_ => ((fun k_ => (P1_ k_ ∨ w.heap.size ≤ k_))) k_ ∧ ¬ ((fun k_ => some k_ = (.slice Av_ t189.length cv_ : Value).ownBlock)) k_) (.slice (some ⟨go43, 0, none⟩) l1.length co44) l1 from (by (with_reducible repeat (first | apply Kd.S_alloc | apply Kd.S_drewN | apply Kd.S_drew)); exact Kd.S_mono HO1.out (fun k_ hk => ⟨hk.1, fun e_ => hk.2 e_⟩))); obtain ⟨oki48, ce48, hcl48, hM48, hcc48, hfr48, hoki48, hH48⟩ := Kd.S_elem HX48.out z26 (t167 : Int) (of_decide_eq_true (by (with_reducible assumption))) (by have h_ : (t167 : Int) < ((l1.length : Int) : Int) := of_decide_eq_true (by (with_reducible assumption)); exact h_); obtain ⟨ve48_2, rfl, ge48_2⟩ := k26_openM hM48; have HP48 := Kd.S_seg hH48 (of_decide_eq_true (by (with_reducible assumption))) (by have h_ : (t167 : Int) < ((l1.length : Int) : Int) := of_decide_eq_true (by (with_reducible assumption)); exact h_) (seg := [(.slice Av_ t189.length cv_)]) (j := 2) (show 3 ≤ 3 from by decide) (x' := (⟨(rd_T26 l1 t167).f0, (rd_T26 l1 t167).f1, t189⟩ : S26)) (k26_mkM _ _ _ (⟨(rd_T26 l1 t167).f0, (rd_T26 l1 t167).f1, t189⟩ : S26) (Kd.R_mono (Kd.R_tight rfl (Kd.R_mono (ok' := fun k_ => ((fun k_ => (P1_ k_ ∨ w.heap.size ≤ k_))) k_ ∧ k_ ≠ go43) (Kd.R_apart' (HO191.out) (Kd.S_typed HO1.out) (by decide)) (fun k_ hk => ⟨hk.1.1, fun e_ => (hk.2) (by rw [e_]; rfl)⟩))) (fun _ h_ => Or.inr (h_)))) (fun _ hk => hk) (fun k_ hk_ => ((Kd.R_mono (ok' := fun k_ => ((fun k_ => (P1_ k_ ∨ w.heap.size ≤ k_))) k_ ∧ k_ ≠ go43) (Kd.R_apart' (HO191.out) (Kd.S_typed HO1.out) (by decide)) (fun k_ hk => ⟨hk.1.1, fun e_ => (hk.2) (by rw [e_]; rfl)⟩))).1 k_ hk_.symm); have hx48_2 := hcc48 2 _ rfl; (try simp only [show (k26).sz = 3 from rfl, Nat.mul_one, Nat.add_zero] at hx48_2); have hf48_2 := hfr48 2; (try simp only [show (k26).sz = 3 from rfl, Nat.mul_one, Nat.add_zero] at hf48_2); clear hcl48 hcc48 hfr48 hM48 hoki48 hH48) | ((with_reducible refine gate_store (t := 24) (p := 48) rfl ?_); refine store_event (t := 24) (p := 48) (v := ?vo_w49) (w1 := (w47.setCell ⟨go43, (t167 : Int).toNat * 3 + 2, none⟩ ((.slice Av_ t189.length cv_)))) ?hg ?ho ?hn ?hr ?_; (case ho => rfl); (case hg => rfl); (case hn => rfl); (case hr => (go_simp; done)); intro w49 hw; have hg : w47.grownBy w49 (some go43) := (by rw [hw]; exact HP48.2); have hp_ : Kd.S k26 26 w49 w0.heap.size (fun k_ => (P1_ k_ ∨ w.heap.size ≤ k_)) (.slice (some ⟨go43, 0, none⟩) l1.length co44) y194 := (by rw [hw, Ny194.out]; exact HP48.1); clear HP48; have n0_ := Aside0.mk (IsS92.grown (by repeat ((with_reducible exact HI0.out))) hg (IsS92.own_neS HI0.out HO1.out (by decide))); have n1_ := Aside0.mk (hp_); have n2_ := Aside0.mk ((by rw [hw]; exact below_set (HB.out) GB43.out : Below w0.heap.size w0 w49)); have n3_ := Aside0.mk (Kept.of_grown (S := (fun k_ => (P1_ k_) ∨ k_ = g)) hg (by repeat ((with_reducible exact HK.out))) (fun k_ e_ => Or.imp_left Or.inl (((Kd.S_R HO1.out).1 k_ e_).1))); clear HI0; clear HO1; clear HB; clear HK; clear HO191; have HI0 := n0_; have HO1 := n1_; have HB := n2_; have HK := n3_; clear n0_ n1_ n2_ n3_; clear hg hw hp_))
              go_ret
              exact ⟨_, by rfl, by (with_reducible repeat (first | apply Kd.S_alloc | apply Kd.S_drewN | apply Kd.S_drew)); exact HO1.out, by repeat ((with_reducible exact HI0.out)), by repeat ((with_reducible exact HB.out)), by repeat ((with_reducible exact HK.out))⟩
            · rw [if_neg c42] at H
              exact absurd H (by simp)
          · rw [if_neg c41] at H
            exact absurd H (by simp)
        · rw [if_neg c39] at H
          have c39b0 : (t170 == 2) = false := beq_eq_false_iff_ne.mpr c39
          have c39b1 : (t170 != 2) = true := bne_iff_ne.mpr c39
          simp only [Option.some.injEq, Prod.mk.injEq] at H
          obtain ⟨rfl, rfl, rfl⟩ := H
          obtain ⟨Ao50, co50, eo50⟩ := Kd.S_slice HO1.out
          subst eo50
          go_enter Try.func55, Try.ntmps55
          go_wp2_with (first | ((with_reducible refine gate_callee (f := 82) rfl ?_); refine goesL_ (some 13) rfl rfl Try.func82 (by kernel_rfl) rfl #[.pointer (some ⟨g, 0, none⟩), .int .i64 (l1.length : Int)] rfl (by (try simp only [List.map_toArray, List.map_cons, List.map_nil]); rfl) ?_; (with_reducible refine (spec_l01Cur_pick.calls g s0_0 s0_1 s0_2 (l1.length : Int) t167 t168 t169 w0 _ ?side1 ?side2 A5.out).mono ?_); (case side1 => repeat ((with_reducible exact HI0.out))); (case side2 => repeat ((with_reducible exact HB.out))); rintro e w51 ⟨rfl, hi, hb, hk⟩; refine ⟨_, rfl, ?_⟩; have n0_ := Aside0.mk (Kd.S_mono (Kd.S_keep (IsS92.apartS (show IsS92 w0 _ g s0_0 s0_1 s0_2 from by repeat ((with_reducible exact HI0.out))) (by (with_reducible repeat (first | apply Kd.S_alloc | apply Kd.S_drewN | apply Kd.S_drew)); exact HO1.out) (by decide)) hk (fun _ h => h.2)) (fun _ h => h.1)); have n1_ := Aside0.mk (Kept.of_keep (S := (fun k_ => (P1_ k_) ∨ k_ = g)) (by repeat ((with_reducible exact HK.out))) hk (.inl (.inr rfl))); have n2_ := Aside0.mk (hb); have n3_ := Aside0.mk (hi); clear HO1; clear HK; clear HB; clear HI0; have HO1 := n0_; have HK := n1_; have HB := n2_; have HI0 := n3_; clear n0_ n1_ n2_ n3_; (try clear hb); (try clear hb2); (try clear hk); (try clear hi)) | ((with_reducible refine gate_callee (f := 82) rfl ?_); refine goesL_ (some 15) rfl rfl Try.func82 (by kernel_rfl) rfl #[.pointer (some ⟨g, 0, none⟩), .int .i64 12] rfl (by (try simp only [List.map_toArray, List.map_cons, List.map_nil]); rfl) ?_; (with_reducible refine (spec_l01Cur_pick.calls g s0_0 t168 t169 12 t170 t171 t172 w0 _ ?side1 ?side2 A6.out).mono ?_); (case side1 => repeat ((with_reducible exact HI0.out))); (case side2 => repeat ((with_reducible exact HB.out))); rintro e w52 ⟨rfl, hi, hb, hk⟩; refine ⟨_, rfl, ?_⟩; have n0_ := Aside0.mk (Kd.S_mono (Kd.S_keep (IsS92.apartS (show IsS92 w0 _ g s0_0 t168 t169 from by repeat ((with_reducible exact HI0.out))) (by (with_reducible repeat (first | apply Kd.S_alloc | apply Kd.S_drewN | apply Kd.S_drew)); exact HO1.out) (by decide)) hk (fun _ h => h.2)) (fun _ h => h.1)); have n1_ := Aside0.mk (Kept.of_keep (S := (fun k_ => (P1_ k_) ∨ k_ = g)) (by repeat ((with_reducible exact HK.out))) hk (.inl (.inr rfl))); have n2_ := Aside0.mk (hb); have n3_ := Aside0.mk (hi); clear HO1; clear HK; clear HB; clear HI0; have HO1 := n0_; have HK := n1_; have HB := n2_; have HI0 := n3_; clear n0_ n1_ n2_ n3_; (try clear hb); (try clear hb2); (try clear hk); (try clear hi)))
          go_ret
          exact ⟨_, by rfl, by (with_reducible repeat (first | apply Kd.S_alloc | apply Kd.S_drewN | apply Kd.S_drew)); exact HO1.out, by repeat ((with_reducible exact HI0.out)), by repeat ((with_reducible exact HB.out)), by repeat ((with_reducible exact HK.out))⟩

/-! ### spec_l02Pow: function 74 -/
def spec_l02Pow.l0 : Nat → Int → Int → Option (Int)
  | 0, _, _ => none
  | k + 1, x0, x3 => if x0 > 0 then (spec_l02Pow.l0 k (wrap64 (x0 - 1)) (wrap64 (2 * x3))) else (some x3)
def spec_l02Pow.f (k : Nat) (a0 : Int) : Option (Int) := spec_l02Pow.l0 k a0 1
theorem spec_l02Pow.mono_l : ∀ k, (∀ y0 y1, LeO (spec_l02Pow.l0 k y0 y1) (spec_l02Pow.l0 (k + 1) y0 y1))
  | 0 => fun _ _ r h => by simp [spec_l02Pow.l0] at h
  | k + 1 => by
    have ih0 := spec_l02Pow.mono_l k
    · intro y0 y1
      unfold spec_l02Pow.l0
      repeat' first | (with_reducible exact ih0 _ _) | (with_reducible exact LeO.refl _) | (with_reducible refine LeO.ite ?_ ?_)
theorem spec_l02Pow.mono : ∀ a0 k, LeO (spec_l02Pow.f k a0) (spec_l02Pow.f (k + 1) a0) := by
  intro a0 k
  have ih0 := spec_l02Pow.mono_l k
  unfold spec_l02Pow.f
  repeat' (with_reducible exact ih0 _ _)
set_option maxHeartbeats 8000000 in
set_option maxRecDepth 100000 in
theorem spec_l02Pow.calls (k : Nat) (a0 : Int) (r : Int) (w : World) (h : spec_l02Pow.f k a0 = some r) :
    Calls Try.prog 74 #[.int .i64 a0] w fun e w' => e = .returned (.int .i64 r) ∧ Drawn0 w w' := by
  have H : (spec_l02Pow.l0 k a0 1) = some r := h
  clear h
  have H' := Aside0.mk H
  clear H
  go_enter Try.func74, Try.ntmps74
  go_wp2
  go_loopg [0, 3] k (fun kq v0 v3 w' => ∃ (x0_1 : Int) (x3_1 : Int), v0 = .int .i64 x0_1 ∧ v3 = .int .i64 x3_1 ∧ Aside0 (spec_l02Pow.l0 kq x0_1 x3_1 = some r) ∧ Aside0 (kq ≤ k) ∧ Drawn0 w w')
  case atStart => exact ⟨(a0), (1), (by rfl), (by rfl), H', ⟨Nat.le_refl _⟩, by repeat (exact Drawn0.refl _)⟩
  case round =>
    clear H'
    obtain ⟨x0_1, x3_1, rfl, rfl, HA, HK1, ⟨m1, rfl⟩⟩ := hrel
    cases gk with
    | zero => exact absurd HA.out (by simp [spec_l02Pow.l0])
    | succ k1 =>
      have H := HA.out
      clear HA
      simp only [spec_l02Pow.l0] at H
      by_cases c2 : x0_1 > 0
      · rw [if_pos c2] at H
        have c2b0 : decide (0 < x0_1) = true := decide_eq_true c2
        clear c2
        have H' := Aside0.mk H
        clear H
        go_wp2
        go_roundg k1
        case measure => have := HK1.out; omega
        case rel => exact ⟨(wrap64 (x0_1 - 1)), (wrap64 (2 * x3_1)), (by rfl), (by rfl), H', ⟨by have := HK1.out; omega⟩, by repeat (first | exact Drawn0.refl _ | apply Drawn0.step)⟩
      · rw [if_neg c2] at H
        have c2b0 : decide (0 < x0_1) = false := decide_eq_false c2
        clear c2
        obtain rfl := Option.some.inj H
        go_wp2
        go_ret
        exact ⟨by rfl, by repeat (first | exact Drawn0.refl _ | apply Drawn0.step)⟩

end Go.Proofs.Ytggfndobfpmoaaa.PFnEvicted

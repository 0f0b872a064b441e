-- Laid by a program of this session: what the print of the kit writes, and contracts of the session where the print takes no function. Lean checks it.
import Derived.Test.YtljmhhadclgegaaPFnExactBatchCappedx0
import Derived.Test.YtljmhhadclgegaaPFnExactBatchCappedx8
namespace Go.Proofs.Ytljmhhadclgegaa.PFnExactBatchCapped
open Go.RowKit Go.Proofs.YtljmhhadclgegaaW.PrintWords Go.Proofs.YtljmhhadclgegaaW.PrintLast Go.Proofs.YtljmhhadclgegaaW.PrintMore
attribute [local go_sem] max2_int min2_int max_two min_two max_three min_three max_four min_four   -- for this text's walks alone
set_option linter.unusedVariables false
set_option linter.unusedSimpArgs false

/-! ### impl_planesOf: function 57 -/
theorem sub_set (X : List Int) (o n kk : Nat) (hk : kk < n) (h : o + n ≤ X.length) (v : Int) : ((X.set (o + kk) v).drop o).take n = ((X.drop o).take n).set kk v := by
  rw [List.drop_set, if_neg (by omega), List.take_set, Nat.add_sub_cancel_left]
theorem sub_rd (X : List Int) (o n kk : Nat) (hk : kk < n) (h : o + n ≤ X.length) : rd ((X.drop o).take n) (kk : Int) = rd X ((o + kk : Nat) : Int) := by
  unfold rd
  rw [Int.toNat_natCast, Int.toNat_natCast]
  simp [hk, List.getElem?_drop]
set_option maxHeartbeats 4000000 in
theorem impl_setLane.calls_sub (kf : Nat) (P0 : Nat → Prop) (g o n c cap : Nat) (L : List Int) (a1 a2 : Int) (r : List Int) (w0 w : World) (hB : Below w0.heap.size w0 w) (hgb : w0.heap.size ≤ g) (ho0 : Kd.R (Kd.int .u64) 30 w w0.heap.size P0 (.slice (some ⟨g, 0, none⟩) L.length cap) L) (ho : o + n ≤ L.length) (hn : n ≤ 1000) (h : impl_setLane.f kf ((L.drop o).take n) a1 a2 = some r) :
    Calls Try.prog 51 #[.slice (some ⟨g, o, none⟩) n c, .int .i64 a1, .int .i64 a2] w fun e w' => e = .returned (.tuple #[]) ∧ Kd.R (Kd.int .u64) 30 w' w0.heap.size P0 (.slice (some ⟨g, 0, none⟩) L.length cap) (L.take o ++ (r ++ L.drop (o + n))) ∧ Below w0.heap.size w0 w' ∧ KeepBut w w' g none := by
  have HB := Aside0.mk hB
  have HO := Aside0.mk ho0
  have HK := Aside0.mk (KeepBut.refl w g none)
  have hln : ((L.drop o).take n).length = n := by rw [List.length_take, List.length_drop]; omega
  have HF : Aside0 (∃ kf, impl_setLane.l0 kf ((L.drop o).take n) a1 a2 (n : Int) ((0 : Nat) : Int) = some r) := ⟨kf, by unfold impl_setLane.f at h; rw [hln] at h; exact h⟩
  clear h ho0 hB hln
  go_enter Try.func51, Try.ntmps51
  go_wp2
  go_loopg [9] n (fun gg s9 wr => ∃ (kk : Nat) (X : List Int), kk ≤ n ∧ n - kk ≤ gg ∧ s9 = .int .i64 kk ∧ X.length = L.length ∧ Aside0 (Kd.R (Kd.int .u64) 30 wr w0.heap.size P0 (.slice (some ⟨g, 0, none⟩) L.length cap) X) ∧ Aside0 (Below w0.heap.size w0 wr) ∧ Aside0 (KeepBut w wr g none) ∧ Aside0 (∃ kf, impl_setLane.l0 kf ((X.drop o).take n) a1 a2 (n : Int) (kk : Int) = some r) ∧ Aside0 (X.take o = L.take o ∧ X.drop (o + n) = L.drop (o + n)))
  case atStart => exact ⟨0, L, Nat.zero_le _, by omega, rfl, rfl, HO, HB, HK, HF, ⟨rfl, rfl⟩⟩
  case round =>
    clear HO HB HK HF
    obtain ⟨kk, X, hkk, hgg, rfl, hXl, HO, HB, HK, HF, HT⟩ := hrel
    obtain ⟨kf, hF⟩ := HF.out
    clear HF
    cases kf with
    | zero => simp [impl_setLane.l0] at hF
    | succ kf =>
      simp only [impl_setLane.l0] at hF
      have hln : ((X.drop o).take n).length = n := by rw [List.length_take, List.length_drop]; omega
      by_cases hlt : kk < n
      · have hltz : (kk : Int) < (n : Int) := by omega
        rw [if_pos hltz, if_pos (by omega), if_pos (by rw [hln]; omega)] at hF
        by_cases ha : 0 ≤ a1
        · rw [if_pos ha, Int.toNat_natCast, sub_rd X o n kk hlt (by omega), ← sub_set X o n kk hlt (by omega), show wrap64 ((kk : Int) + 1) = ((kk + 1 : Nat) : Int) from by unfold wrap64; omega] at hF
          have HF := Aside0.mk hF
          clear hF hln
          have hcl := Kd.R_celln (0 : Int) HO.out ((o + kk : Nat) : Int) (by omega) (by omega)
          rw [Int.toNat_natCast] at hcl
          obtain ⟨hc, hf⟩ := hcl
          replace hc : wr.cell? ⟨g, o + kk, none⟩ = some (.int .u64 (rd X ((o + kk : Nat) : Int))) := hc
          generalize hv : rd X ((o + kk : Nat) : Int) = v at hc HF
          go_wp2
          go_region
          all_goals go_wp2
          all_goals (go_roundg (n - (kk + 1)))
          case measure => omega
          case rel =>
            have hp := Kd.R_putn HO.out ((o + kk : Nat) : Int) (Go.bits .or .u64 v (shl .u64 (IntKind.u64.wrap (Go.bits .and .i64 (shr .i64 a2 (kk : Int)) 1)) a1))
            rw [Int.toNat_natCast] at hp
            exact ⟨kk + 1, X.set (o + kk) (Go.bits .or .u64 v (shl .u64 (IntKind.u64.wrap (Go.bits .and .i64 (shr .i64 a2 (kk : Int)) 1)) a1)), by omega, by omega, by go_num, by simpa using hXl, ⟨Kd.R_drew hp⟩, ⟨(HB.out.setCell hgb _).drew⟩, ⟨keep_drew (KeepBut.set_ HK.out _ _)⟩, ⟨kf, HF.out⟩, ⟨by rw [List.take_set_of_le (by omega)]; exact HT.out.1, by rw [List.drop_set_of_lt (by omega)]; exact HT.out.2⟩⟩
        · rw [if_neg ha] at hF; cases hF
      · have hltz : ¬ (kk : Int) < (n : Int) := by omega
        rw [if_neg hltz] at hF
        have hr : (X.drop o).take n = r := Option.some.inj hF
        go_wp2
        first | go_end0 | ((try simp only [Exit.inBlock, Exit.then]); refine bodyPost_ret (results_none rfl _ _ _) rfl ?_)
        refine ⟨rfl, ?_, HB.out, HK.out⟩
        have e : L.take o ++ (r ++ L.drop (o + n)) = X := by
          rw [← hr, ← HT.out.1, ← HT.out.2, ← List.drop_drop, List.take_append_drop, List.take_append_drop]
        rw [e]
        exact HO.out
theorem three_new (w : World) (X Y Z : Obj) : (((w.alloc X).alloc Y).alloc Z).drew.heap[w.heap.size]? = some X ∧ (((w.alloc X).alloc Y).alloc Z).drew.heap[w.heap.size + 1]? = some Y ∧ (((w.alloc X).alloc Y).alloc Z).drew.heap[w.heap.size + 1 + 1]? = some Z := by
  have e1 : (w.alloc X).heap.size = w.heap.size + 1 := by simp
  have e2 : ((w.alloc X).alloc Y).heap.size = w.heap.size + 1 + 1 := by simp
  refine ⟨blk_drew (blk_alloc (blk_alloc (blk_new w X) Y) Z), ?_, ?_⟩
  · exact blk_drew (blk_alloc (e1 ▸ blk_new (w.alloc X) Y) Z)
  · exact blk_drew (e2 ▸ blk_new ((w.alloc X).alloc Y) Z)
theorem R_of_block {wc : World} {base g n : Nat} {ok : Nat → Prop} (hb : base ≤ g) (hok : ok g) (hn : n ≤ 1000) (hh : wc.heap[g]? = some (.cells (madeCells #[.int .u64 0] n) 30 (0, 0))) : Kd.R (Kd.int .u64) 30 wc base ok (.slice (some ⟨g, 0, none⟩) n n) (List.replicate n (0 : Int)) := by
  have hs : (madeCells #[Value.int .u64 0] n).size = n := by simp [size_madeCells]
  refine ⟨fun k hk => ?_, (madeCells #[Value.int .u64 0] n).toList, ⟨by (simp [size_madeCells]; show n = n * 1; omega), .inr ⟨g, n, madeCells #[.int .u64 0] n, by simp, hb, hh, by simp, by unfold maxLen; omega, by rw [hs]; show n = n * 1; omega, ?_⟩⟩, ?_⟩
  · have : g = k := by simpa [Value.ownBlock] using hk
    subst this
    exact hok
  · rw [List.take_of_length_le]
    simp [size_madeCells]
    show n ≤ n * 1
    omega
  · have:= Kd.reps_made (R := fun (x : Int) cs => cs = [Value.int .u64 x]) (z := .int .u64 0) (size := 1) (z0 := 0) rfl (by decide) rfl n
    rw [Nat.mul_one] at this
    exact this
def impl_planesOf.lets (k : Nat) (b : ByteArray) (lane : Int) : Nat → Nat → List Int → Option (List Int)
  | 0, _, L => some L
  | d + 1, p, L => if 5 * p + 5 ≤ L.length then ((impl_setLane.f k ((L.drop (5 * p)).take 5) lane (wrap64 ((wrap64 (IntKind.u8.wrap (bt b (p : Int) - 97))) + 1))).bind fun r => impl_planesOf.lets k b lane d (p + 1) (L.take (5 * p) ++ (r ++ L.drop (5 * p + 5)))) else none
def impl_planesOf.l (k : Nat) : List ByteArray → Nat → List Int → List Int → Option (Bool × List Int × List Int)
  | [], _, A, B => some (true, A, B)
  | b :: bs, lane, A, B => (if b.toList = ([] : List UInt8) then some true else impl_isWord.f k b).bind fun t => if t = true then ((impl_setLane.f k A (lane : Int) (b.size : Int)).bind fun A' => (impl_planesOf.lets k b (lane : Int) b.size 0 B).bind fun B' => impl_planesOf.l k bs (lane + 1) A' B') else some (false, ([] : List Int), ([] : List Int))
def impl_planesOf.f (k : Nat) (l0 : List ByteArray) : Option (Int × List Int × List Int × Bool) :=
  if (l0.length : Int) > 64 then some (0, ([] : List Int), ([] : List Int), false) else ((impl_planesOf.l k l0 0 (List.replicate 6 0) (List.replicate 160 0)).bind fun x => if x.1 = true then some ((l0.length : Int), x.2.1, x.2.2, true) else some (0, ([] : List Int), ([] : List Int), false))
theorem impl_planesOf.lets_mono (k : Nat) (b : ByteArray) (lane : Int) : ∀ (d p : Nat) (L : List Int), LeO (impl_planesOf.lets k b lane d p L) (impl_planesOf.lets (k + 1) b lane d p L)
  | 0, _, L => LeO.refl _
  | d + 1, p, L => by
    rw [impl_planesOf.lets, impl_planesOf.lets]
    exact LeO.ite (LeO.bind (impl_setLane.mono _ _ _ k) (fun _ => impl_planesOf.lets_mono k b lane d _ _)) (LeO.refl _)
theorem impl_planesOf.l_mono (k : Nat) : ∀ (bs : List ByteArray) (lane : Nat) (A B : List Int), LeO (impl_planesOf.l k bs lane A B) (impl_planesOf.l (k + 1) bs lane A B)
  | [], _, _, _ => LeO.refl _
  | b :: bs, lane, A, B => by
    rw [impl_planesOf.l, impl_planesOf.l]
    exact LeO.bind (LeO.ite (LeO.refl _) (impl_isWord.mono _ k)) (fun t => LeO.ite (LeO.bind (impl_setLane.mono _ _ _ k) (fun _ => LeO.bind (impl_planesOf.lets_mono k b _ _ _ _) (fun _ => impl_planesOf.l_mono k bs _ _ _))) (LeO.refl _))
theorem impl_planesOf.mono : ∀ a0 k, LeO (impl_planesOf.f k a0) (impl_planesOf.f (k + 1) a0) := by
  intro a0 k
  unfold impl_planesOf.f
  exact LeO.ite (LeO.refl _) (LeO.bind (impl_planesOf.l_mono k _ _ _ _) (fun _ => LeO.refl _))
set_option maxHeartbeats 4000000 in
set_option maxRecDepth 100000 in
theorem impl_planesOf.calls (k : Nat) (A0 : Option Addr) (c0 : Nat) (l0 : List ByteArray) (r1 : Int) (r2 : List Int) (r3 : List Int) (r4 : Bool) (w : World) (hr0 : Kd.C Kd.string w A0 l0.length l0) (hc0 : l0.length ≤ c0) (h : impl_planesOf.f k l0 = some (r1, r2, r3, r4)) :
    Calls Try.prog 57 #[.slice A0 l0.length c0] w fun e w' => ∃ v1_ v2_ : Value, e = .returned (.tuple #[.agg #[.int .i64 r1, v1_, v2_], .bool r4]) ∧ Kd.R (Kd.int .u64) 30 w' w.heap.size (fun k_ => some k_ ≠ (v2_ : Value).ownBlock) v1_ r2 ∧ Kd.R (Kd.int .u64) 30 w' w.heap.size (fun k_ => some k_ ≠ (v1_ : Value).ownBlock) v2_ r3 ∧ Below w.heap.size w w' := by
  have hu37 := Try.underlying37
  have HR0 := Aside0.mk hr0
  have HC0 := Aside0.mk hc0
  clear hr0 hc0
  unfold impl_planesOf.f at h
  by_cases c64 : (l0.length : Int) > 64
  · rw [if_pos c64] at h
    obtain ⟨rfl, rfl, rfl, rfl⟩ : (0 : Int) = r1 ∧ ([] : List Int) = r2 ∧ ([] : List Int) = r3 ∧ false = r4 := by simpa using h
    go_enter Try.func57, Try.ntmps57
    go_wp2_with ((with_reducible refine gate_dst (N := 2) rfl ?_); refine box_event ?hg (N := 2) ?hd (cs := #[.int .i64 0, .slice none 0 0, .slice none 0 0]) (t := 37) ?hr ?_; (case hd => rfl); (case hg => rfl); (case hr => first | (go_simp; done) | (go_simp; rfl)); intro gR hg w1 hbox hb; have HB := Aside0.mk hb; have BKR := Aside0.mk hbox; have GR := Aside0.mk (show w.heap.size ≤ gR by omega); clear hb hbox hg; have hcR0 : w1.cell? ⟨gR, 0, none⟩ = some (.int .i64 0) := (blk_cell BKR.out 0).trans rfl; have hcR1 : w1.cell? ⟨gR, 1, none⟩ = some (.slice none 0 0) := (blk_cell BKR.out 1).trans rfl; have hcR2 : w1.cell? ⟨gR, 2, none⟩ = some (.slice none 0 0) := (blk_cell BKR.out 2).trans rfl; have hfR0 := blk_frozen BKR.out 0; have hfR1 := blk_frozen BKR.out 1; have hfR2 := blk_frozen BKR.out 2)
    refine bodyPost_ret (results_ct rfl _ _ gR 37 #[.int .i64 0, .slice none 0 0, .slice none 0 0] (0, 0) _ rfl (by refine blk_put (cs := #[.int .i64 0, .slice none 0 0, .slice none 0 0]) ?_ 2 _ rfl; refine blk_put (cs := #[.int .i64 0, .slice none 0 0, .slice none 0 0]) ?_ 1 _ rfl; refine blk_put (cs := #[.int .i64 0, .slice none 0 0, .slice none 0 0]) ?_ 0 _ rfl; exact BKR.out) Try.underlying37 rfl (by kernel_rfl)) rfl ?_
    exact ⟨_, _, rfl, Kd.R_nil _ _ _ _ _, Kd.R_nil _ _ _ _ _, below_set (below_set (below_set HB.out GR.out) GR.out) GR.out⟩
  · rw [if_neg c64] at h
    have HF := Aside0.mk h
    clear h
    obtain ⟨i0, hi0, hzz⟩ := Option.map_eq_some_iff.1 (show (Try.prog.info? 30).map (fun i => (i.zero, i.size, i.bytes)) = some (some (.int .u64 0), 1, 8) from by kernel_rfl)
    simp only [Prod.mk.injEq] at hzz
    obtain ⟨hz0, hz1, hz2⟩ := hzz
    have hmk : ∀ (m : Nat) (W : World), m ≤ 1000 → (Instr.makeSlice 27 (.int .i64 (m : Int)) (.int .i64 (m : Int))).run Try.prog W = .ok (.slice (some ⟨W.heap.size, 0, none⟩) m m) (W.alloc (.cells (madeCells #[.int .u64 0] m) 30)) := by
      intro m W hm
      have hr := run_make (P := Try.prog) (w := W) 27 30 i0 (.int .u64 0) Try.underlying27 hi0 hz0 .i64 .i64 (m : Int) (m : Int) (by omega) (by omega) (by rw [hz2]; omega) (by omega)
      rw [hz1, Int.toNat_natCast, Nat.mul_one] at hr
      exact hr
    have hm6 : ∀ W : World, (Instr.makeSlice 27 (.int .i64 6) (.int .i64 6)).run Try.prog W = .ok (.slice (some ⟨W.heap.size, 0, none⟩) 6 6) (W.alloc (.cells (madeCells #[.int .u64 0] 6) 30)) := fun W => hmk 6 W (by decide)
    have hm160 : ∀ W : World, (Instr.makeSlice 27 (.int .i64 160) (.int .i64 160)).run Try.prog W = .ok (.slice (some ⟨W.heap.size, 0, none⟩) 160 160) (W.alloc (.cells (madeCells #[.int .u64 0] 160) 30)) := fun W => hmk 160 W (by decide)
    clear hmk hi0 hz0 hz1 hz2
    obtain ⟨M6, hM6⟩ : ∃ M, M = madeCells #[.int .u64 0] 6 := ⟨_, rfl⟩
    obtain ⟨M160, hM160⟩ : ∃ M, M = madeCells #[.int .u64 0] 160 := ⟨_, rfl⟩
    rw [← hM6] at hm6
    rw [← hM160] at hm160
    have HM6 := Aside0.mk hM6
    have HM160 := Aside0.mk hM160
    clear hM6 hM160
    go_enter Try.func57, Try.ntmps57
    go_upto_region 3 with ((with_reducible refine gate_dst (N := 2) rfl ?_); refine box_event ?hg (N := 2) ?hd (cs := #[.int .i64 0, .slice none 0 0, .slice none 0 0]) (t := 37) ?hr ?_; (case hd => rfl); (case hg => rfl); (case hr => first | (go_simp; done) | (go_simp; rfl)); intro gR hg w1 hbox hb; have HB := Aside0.mk hb; have BKR := Aside0.mk hbox; have GR := Aside0.mk (show w.heap.size ≤ gR by omega); clear hb hbox hg)
    (try simp only [Act.put, List.setIfInBounds_toArray, List.set_cons_zero, List.set_cons_succ])
    go_cut [4] (fun s4 wc => ∃ (gS gL gT : Nat), s4 = .pointer (some ⟨gS, 0, none⟩) ∧ Aside0 (wc.heap[gS]? = some (.cells #[.int .i64 (l0.length : Int), .slice (some ⟨gL, 0, none⟩) 6 6, .slice (some ⟨gT, 0, none⟩) 160 160] 37 (0, 0))) ∧ Aside0 (wc.heap[gR]? = some (.cells #[.int .i64 0, .slice none 0 0, .slice none 0 0] 37 (0, 0))) ∧ Aside0 (Kd.R (Kd.int .u64) 30 wc w.heap.size (fun k_ => k_ ≠ gT ∧ k_ ≠ gS ∧ k_ ≠ gR) (.slice (some ⟨gL, 0, none⟩) 6 6) (List.replicate 6 (0 : Int))) ∧ Aside0 (Kd.R (Kd.int .u64) 30 wc w.heap.size (fun k_ => k_ ≠ gL ∧ k_ ≠ gS ∧ k_ ≠ gR) (.slice (some ⟨gT, 0, none⟩) 160 160) (List.replicate 160 (0 : Int))) ∧ Aside0 (gS ≠ gR ∧ w.heap.size ≤ gS ∧ w.heap.size ≤ gL ∧ w.heap.size ≤ gT ∧ gL ≠ gT ∧ gL ≠ gS ∧ gL ≠ gR ∧ gT ≠ gS ∧ gT ≠ gR) ∧ Aside0 (Below w.heap.size w wc))
    case first =>
      go_region
      all_goals (repeat (first | go_skip | go_guarded | go_step | go_upon))
      all_goals go_meet
      all_goals (case rel =>
        have hlt := blk_lt BKR.out
        have hsz := HB.out.size
        first
          | (refine ⟨w1.heap.size, w1.heap.size + 1, w1.heap.size + 1 + 1, rfl, ⟨?_⟩, ⟨blk_drew (blk_alloc (blk_alloc (blk_alloc BKR.out _) _) _)⟩, ⟨R_of_block (n := 6) (by omega) (by omega) (by decide) ?_⟩, ⟨R_of_block (n := 160) (by omega) (by omega) (by decide) ?_⟩, ⟨by omega⟩, ⟨((((HB.out.alloc HB.out.size _).alloc (by have := HB.out.size; simp; omega) _).alloc (by have := HB.out.size; simp; omega) _).drew)⟩⟩ <;> (try rw [← HM6.out]) <;> (try rw [← HM160.out]) <;> (first | exact (three_new _ _ _ _).1 | exact (three_new _ _ _ _).2.1 | exact (three_new _ _ _ _).2.2))
          | (refine ⟨w1.heap.size, w1.heap.size + 1 + 1, w1.heap.size + 1, rfl, ⟨?_⟩, ⟨blk_drew (blk_alloc (blk_alloc (blk_alloc BKR.out _) _) _)⟩, ⟨R_of_block (n := 6) (by omega) (by omega) (by decide) ?_⟩, ⟨R_of_block (n := 160) (by omega) (by omega) (by decide) ?_⟩, ⟨by omega⟩, ⟨((((HB.out.alloc HB.out.size _).alloc (by have := HB.out.size; simp; omega) _).alloc (by have := HB.out.size; simp; omega) _).drew)⟩⟩ <;> (try rw [← HM6.out]) <;> (try rw [← HM160.out]) <;> (first | exact (three_new _ _ _ _).1 | exact (three_new _ _ _ _).2.1 | exact (three_new _ _ _ _).2.2))
          | (refine ⟨w1.heap.size + 1, w1.heap.size, w1.heap.size + 1 + 1, rfl, ⟨?_⟩, ⟨blk_drew (blk_alloc (blk_alloc (blk_alloc BKR.out _) _) _)⟩, ⟨R_of_block (n := 6) (by omega) (by omega) (by decide) ?_⟩, ⟨R_of_block (n := 160) (by omega) (by omega) (by decide) ?_⟩, ⟨by omega⟩, ⟨((((HB.out.alloc HB.out.size _).alloc (by have := HB.out.size; simp; omega) _).alloc (by have := HB.out.size; simp; omega) _).drew)⟩⟩ <;> (try rw [← HM6.out]) <;> (try rw [← HM160.out]) <;> (first | exact (three_new _ _ _ _).1 | exact (three_new _ _ _ _).2.1 | exact (three_new _ _ _ _).2.2))
          | (refine ⟨w1.heap.size + 1, w1.heap.size + 1 + 1, w1.heap.size, rfl, ⟨?_⟩, ⟨blk_drew (blk_alloc (blk_alloc (blk_alloc BKR.out _) _) _)⟩, ⟨R_of_block (n := 6) (by omega) (by omega) (by decide) ?_⟩, ⟨R_of_block (n := 160) (by omega) (by omega) (by decide) ?_⟩, ⟨by omega⟩, ⟨((((HB.out.alloc HB.out.size _).alloc (by have := HB.out.size; simp; omega) _).alloc (by have := HB.out.size; simp; omega) _).drew)⟩⟩ <;> (try rw [← HM6.out]) <;> (try rw [← HM160.out]) <;> (first | exact (three_new _ _ _ _).1 | exact (three_new _ _ _ _).2.1 | exact (three_new _ _ _ _).2.2))
          | (refine ⟨w1.heap.size + 1 + 1, w1.heap.size, w1.heap.size + 1, rfl, ⟨?_⟩, ⟨blk_drew (blk_alloc (blk_alloc (blk_alloc BKR.out _) _) _)⟩, ⟨R_of_block (n := 6) (by omega) (by omega) (by decide) ?_⟩, ⟨R_of_block (n := 160) (by omega) (by omega) (by decide) ?_⟩, ⟨by omega⟩, ⟨((((HB.out.alloc HB.out.size _).alloc (by have := HB.out.size; simp; omega) _).alloc (by have := HB.out.size; simp; omega) _).drew)⟩⟩ <;> (try rw [← HM6.out]) <;> (try rw [← HM160.out]) <;> (first | exact (three_new _ _ _ _).1 | exact (three_new _ _ _ _).2.1 | exact (three_new _ _ _ _).2.2))
          | (refine ⟨w1.heap.size + 1 + 1, w1.heap.size + 1, w1.heap.size, rfl, ⟨?_⟩, ⟨blk_drew (blk_alloc (blk_alloc (blk_alloc BKR.out _) _) _)⟩, ⟨R_of_block (n := 6) (by omega) (by omega) (by decide) ?_⟩, ⟨R_of_block (n := 160) (by omega) (by omega) (by decide) ?_⟩, ⟨by omega⟩, ⟨((((HB.out.alloc HB.out.size _).alloc (by have := HB.out.size; simp; omega) _).alloc (by have := HB.out.size; simp; omega) _).drew)⟩⟩ <;> (try rw [← HM6.out]) <;> (try rw [← HM160.out]) <;> (first | exact (three_new _ _ _ _).1 | exact (three_new _ _ _ _).2.1 | exact (three_new _ _ _ _).2.2)))
    case rest =>
      rename_i K hK
      obtain ⟨gS, gL, gT, rfl, BKS, BKR2, HL, HT, HG, HB2⟩ := hcut
      clear HB BKR hm6 hm160 HM6 HM160
      have HB := HB2
      have BKR := BKR2
      clear HB2 BKR2
      refine hK _ _ ?_
      clear hK
      obtain ⟨x, hx, hy⟩ := Option.bind_eq_some_iff.1 HF.out
      clear HF
      have HF := Aside0.mk hx
      have HY := Aside0.mk hy
      clear hx hy
      obtain ⟨⟨hgSR, hgS, hgL, hgT, hgLT, hgLS, hgLR, hgTS, hgTR⟩⟩ := HG
      have hl64 : l0.length ≤ 64 := by omega
      go_wp2
      go_loopg [19] l0.length (fun gg s19 wr => ∃ (kk : Nat) (A B : List Int), kk ≤ l0.length ∧ l0.length - kk ≤ gg ∧ s19 = .int .i64 kk ∧ A.length = 6 ∧ B.length = 160 ∧ Aside0 (wr.heap[gS]? = some (.cells #[.int .i64 (l0.length : Int), .slice (some ⟨gL, 0, none⟩) 6 6, .slice (some ⟨gT, 0, none⟩) 160 160] 37 (0, 0))) ∧ Aside0 (wr.heap[gR]? = some (.cells #[.int .i64 0, .slice none 0 0, .slice none 0 0] 37 (0, 0))) ∧ Aside0 (Kd.R (Kd.int .u64) 30 wr w.heap.size (fun k_ => k_ ≠ gT ∧ k_ ≠ gS ∧ k_ ≠ gR) (.slice (some ⟨gL, 0, none⟩) 6 6) A) ∧ Aside0 (Kd.R (Kd.int .u64) 30 wr w.heap.size (fun k_ => k_ ≠ gL ∧ k_ ≠ gS ∧ k_ ≠ gR) (.slice (some ⟨gT, 0, none⟩) 160 160) B) ∧ Aside0 (Below w.heap.size w wr) ∧ Aside0 (impl_planesOf.l k (l0.drop kk) kk A B = some x))
      case atStart => exact ⟨0, _, _, Nat.zero_le _, by omega, rfl, by simp, by simp, BKS, BKR, HL, HT, HB, HF⟩
      case round =>
        clear BKS BKR HL HT HB HF
        obtain ⟨kk, A, B, hkk, hgg, rfl, hA, hB', BKS, BKR, HL, HT, HB, HF⟩ := hrel
        by_cases hlt : kk < l0.length
        · have hltz : (kk : Int) < (l0.length : Int) := by omega
          obtain ⟨ad, e, h0⟩ := Kd.at_string HR0.out (kk : Int) (by omega) hltz
          cases e
          rw [Int.toNat_natCast] at h0
          replace h0 := (HB.out.cell (World.block_lt_of_cell? w _ h0)).trans h0
          have hX : rdOf ByteArray.empty l0 (kk : Int) = l0[kk] := by simp [rdOf, hlt]
          have HX := HF.out
          rw [List.drop_eq_getElem_cons hlt, ← hX] at HX
          clear HF hX
          generalize rdOf ByteArray.empty l0 (kk : Int) = b at h0 HX
          rw [impl_planesOf.l] at HX
          obtain ⟨t, ht, HX⟩ := Option.bind_eq_some_iff.1 HX
          have hcS0 : wr.cell? ⟨gS, 0, none⟩ = some (.int .i64 (l0.length : Int)) := (blk_cell BKS.out 0).trans rfl; have hcS1 : wr.cell? ⟨gS, 1, none⟩ = some (.slice (some ⟨gL, 0, none⟩) 6 6) := (blk_cell BKS.out 1).trans rfl; have hcS2 : wr.cell? ⟨gS, 2, none⟩ = some (.slice (some ⟨gT, 0, none⟩) 160 160) := (blk_cell BKS.out 2).trans rfl
          have hcR0 : wr.cell? ⟨gR, 0, none⟩ = some (.int .i64 0) := (blk_cell BKR.out 0).trans rfl; have hcR1 : wr.cell? ⟨gR, 1, none⟩ = some (.slice none 0 0) := (blk_cell BKR.out 1).trans rfl; have hcR2 : wr.cell? ⟨gR, 2, none⟩ = some (.slice none 0 0) := (blk_cell BKR.out 2).trans rfl; have hfR0 := blk_frozen BKR.out 0; have hfR1 := blk_frozen BKR.out 1; have hfR2 := blk_frozen BKR.out 2
          by_cases hbe : b.toList = ([] : List UInt8)
          · rw [if_pos hbe] at ht
            obtain rfl := Option.some.inj ht
            clear ht
            have hbe0 : (b.toList == ([] : List UInt8)) = true := beq_iff_eq.mpr hbe
            have hbe1 : (b.toList != ([] : List UInt8)) = false := bne_eq_false_iff_eq.mpr hbe
            clear hbe
            rw [if_pos rfl] at HX
            obtain ⟨A', hA', HX⟩ := Option.bind_eq_some_iff.1 HX
            obtain ⟨B', hB1, HX⟩ := Option.bind_eq_some_iff.1 HX
            have HF := Aside0.mk HX
            have HI := Aside0.mk hB1
            clear HX hB1
            go_wp2_with (go_at_call 51; refine (impl_setLane.calls_sub k (fun k_ => k_ ≠ gT ∧ k_ ≠ gS ∧ k_ ≠ gR) gL 0 6 6 6 A (kk : Int) (b.size : Int) A' w _ HB.out hgL (by rw [hA]; exact HL.out) (by omega) (by decide) (by rw [List.drop_zero, List.take_of_length_le (by omega)]; exact hA')).mono ?_; rintro e w3 ⟨rfl, hr, hb, hkp⟩; have n1_ := Aside0.mk (KeepBut.blk hkp BKS.out hgLS.symm (by simp)); have n2_ := Aside0.mk (KeepBut.blk hkp BKR.out hgLR.symm (by simp)); have n3_ := Aside0.mk (show Kd.R (Kd.int .u64) 30 w3 w.heap.size (fun k_ => k_ ≠ gT ∧ k_ ≠ gS ∧ k_ ≠ gR) (.slice (some ⟨gL, 0, none⟩) 6 6) A' from by (have e_ : A.take 0 ++ (A' ++ A.drop (0 + 6)) = A' := (by rw [List.drop_eq_nil_of_le (by omega)]; simp); rw [e_, hA] at hr; exact hr)); have n4_ := Aside0.mk (Kd.R_keep HT.out hkp (fun k_ hk_ => hk_.1)); have n5_ := Aside0.mk hb; clear hcS0 hcS1 hcS2 hr hb hkp BKS BKR HL HT HB; have BKS := n1_; have BKR := n2_; have HL := n3_; have HT := n4_; have HB := n5_; clear n1_ n2_ n3_ n4_ n5_)
            have hA2 : A'.length = 6 := ((Kd.R_reads' HL.out).1).symm
            go_loopg [40] b.size (fun gg s40 wi => ∃ (p : Nat) (X : List Int), p ≤ b.size ∧ b.size - p ≤ gg ∧ s40 = .int .i64 p ∧ X.length = 160 ∧ Aside0 (wi.heap[gS]? = some (.cells #[.int .i64 (l0.length : Int), .slice (some ⟨gL, 0, none⟩) 6 6, .slice (some ⟨gT, 0, none⟩) 160 160] 37 (0, 0))) ∧ Aside0 (wi.heap[gR]? = some (.cells #[.int .i64 0, .slice none 0 0, .slice none 0 0] 37 (0, 0))) ∧ Aside0 (Kd.R (Kd.int .u64) 30 wi w.heap.size (fun k_ => k_ ≠ gT ∧ k_ ≠ gS ∧ k_ ≠ gR) (.slice (some ⟨gL, 0, none⟩) 6 6) A') ∧ Aside0 (Kd.R (Kd.int .u64) 30 wi w.heap.size (fun k_ => k_ ≠ gL ∧ k_ ≠ gS ∧ k_ ≠ gR) (.slice (some ⟨gT, 0, none⟩) 160 160) X) ∧ Aside0 (Below w.heap.size w wi) ∧ Aside0 (impl_planesOf.lets k b (kk : Int) (b.size - p) p X = some B'))
            case atStart => exact ⟨0, B, Nat.zero_le _, by omega, rfl, hB', BKS, BKR, HL, HT, HB, HI⟩
            case round =>
              clear BKS BKR HL HT HB HI
              obtain ⟨p, X, hp, hgp, rfl, hXl, BKS, BKR, HL, HT, HB, HI⟩ := hrel
              by_cases hpt : p < b.size
              · have hptz : (p : Int) < (b.size : Int) := by omega
                have HY := HI.out
                clear HI
                rw [show b.size - p = (b.size - (p + 1)) + 1 from by omega] at HY
                rw [impl_planesOf.lets] at HY
                by_cases h5 : 5 * p + 5 ≤ X.length
                · rw [if_pos h5] at HY
                  obtain ⟨r, hr, HY⟩ := Option.bind_eq_some_iff.1 HY
                  have HI := Aside0.mk HY
                  clear HY
                  have HSL := Aside0.mk hr
                  clear hr
                  have e5w : IntKind.i64.wrap (5 * (p : Int)) = 5 * (p : Int) := by rw [IntKind.wrap_i64]; omega
                  have e6w : IntKind.i64.wrap (5 * (p : Int) + 5) = 5 * (p : Int) + 5 := by rw [IntKind.wrap_i64]; omega
                  have hcS2 : wr.cell? ⟨gS, 2, none⟩ = some (.slice (some ⟨gT, 0, none⟩) 160 160) := (blk_cell BKS.out 2).trans rfl
                  go_wp2
                  refine wp_region_still_tail 15 (by kernel_rfl) (by kernel_rfl) ?_
                  simp only [List.take_succ_cons, List.take_zero, List.drop_succ_cons, List.drop_zero]
                  have HBd := Aside0.mk HB.out.drew
                  have HTd := Aside0.mk (Kd.R_drew HT.out)
                  have HLd := Aside0.mk (Kd.R_drew HL.out)
                  have BKSd := Aside0.mk (blk_drew BKS.out)
                  have BKRd := Aside0.mk (blk_drew BKR.out)
                  change wpStill _ _ (World.drew _) (fun a' => wpList _ _ _ _ a' (World.drew _)) _ _
                  generalize World.drew wr = W2 at HBd HTd HLd BKSd BKRd ⊢
                  clear hcS2 HB HT HL BKS BKR
                  have HB := HBd
                  have HT := HTd
                  have HL := HLd
                  have BKS := BKSd
                  have BKR := BKRd
                  clear HBd HTd HLd BKSd BKRd
                  have hcS2 : W2.cell? ⟨gS, 2, none⟩ = some (.slice (some ⟨gT, 0, none⟩) 160 160) := (blk_cell BKS.out 2).trans rfl
                  repeat still_step
                  try simp only [e5w]
                  refine wpStill_step (fun K hK => ?_)
                  go_simp
                  try simp only [e6w]
                  rw [if_pos (show 0 ≤ 5 * (p : Int) + 5 ∧ 5 * (p : Int) + 5 ≤ 160 by omega), if_pos (show 0 ≤ 5 * (p : Int) ∧ 5 * (p : Int) ≤ max (5 * (p : Int) + 5) 0 by omega), if_neg (show ¬ 160 = (5 * (p : Int)).toNat by omega), show (5 * (p : Int) + 5).toNat - (5 * (p : Int)).toNat = 5 from by omega, show (5 * (p : Int)).toNat = 5 * p from by omega]
                  dsimp only
                  refine ⟨rfl, hK _ ?_⟩
                  clear hK K
                  repeat still_step
                  refine wpStill_nil ?_
                  have hsl : impl_setLane.f k ((X.drop (5 * p)).take 5) (kk : Int) (wrap64 (wrap64 (((b[p]'hpt).toNat - 97 : Int) % 256) + 1)) = some r := by
                    have e_ : IntKind.u8.wrap (bt b (p : Int) - 97) = (((b[p]'hpt).toNat - 97 : Int) % 256) := by
                      rw [IntKind.wrap_u8, ← bt_at b (p : Int) (by simpa using hpt)]; rfl
                    rw [← e_]
                    exact HSL.out
                  have HSL2 := Aside0.mk hsl
                  clear hsl HSL
                  go_wp2_with (go_at_call 51; refine (impl_setLane.calls_sub k (fun k_ => k_ ≠ gL ∧ k_ ≠ gS ∧ k_ ≠ gR) gT (5 * p) 5 (160 - 5 * p) 160 X (kk : Int) _ r w _ HB.out hgT (by rw [hXl]; exact HT.out) (by omega) (by decide) HSL2.out).mono ?_; rintro e w3 ⟨rfl, hr, hb, hkp⟩; have n1_ := Aside0.mk (KeepBut.blk hkp BKS.out hgTS.symm (by simp)); have n2_ := Aside0.mk (KeepBut.blk hkp BKR.out hgTR.symm (by simp)); have n3_ := Aside0.mk (show Kd.R (Kd.int .u64) 30 w3 w.heap.size (fun k_ => k_ ≠ gL ∧ k_ ≠ gS ∧ k_ ≠ gR) (.slice (some ⟨gT, 0, none⟩) 160 160) (X.take (5 * p) ++ (r ++ X.drop (5 * p + 5))) from (by rw [hXl] at hr; exact hr)); have n4_ := Aside0.mk (Kd.R_keep HL.out hkp (fun k_ hk_ => hk_.1)); have n5_ := Aside0.mk hb; clear hcS2 hr hb hkp BKS BKR HL HT HB; have BKS := n1_; have BKR := n2_; have HT := n3_; have HL := n4_; have HB := n5_; clear n1_ n2_ n3_ n4_ n5_)
                  have hX2 : (X.take (5 * p) ++ (r ++ X.drop (5 * p + 5))).length = 160 := ((Kd.R_reads' HT.out).1).symm
                  all_goals (go_roundg (b.size - (p + 1)))
                  case measure => omega
                  case rel => exact ⟨p + 1, _, by omega, by omega, by go_num, hX2, BKS, BKR, HL, HT, HB, HI⟩
                · rw [if_neg h5] at HY
                  exact absurd HY (by simp)
              · have hpe : p = b.size := by omega
                have hptz : ¬ (p : Int) < (b.size : Int) := by omega
                have HY := HI.out
                clear HI
                rw [show b.size - p = 0 from by omega] at HY
                obtain rfl : X = B' := Option.some.inj HY
                clear HY
                go_wp2
                all_goals (go_roundg (l0.length - (kk + 1)))
                case measure => omega
                case rel => exact ⟨kk + 1, A', X, by omega, by omega, by go_num, hA2, hXl, BKS, BKR, HL, HT, HB, HF⟩
          · rw [if_neg hbe] at ht
            have hbe0 : (b.toList == ([] : List UInt8)) = false := beq_eq_false_iff_ne.mpr hbe
            have hbe1 : (b.toList != ([] : List UInt8)) = true := bne_iff_ne.mpr hbe
            clear hbe
            cases t with
            | true =>
              rw [if_pos rfl] at HX
              obtain ⟨A', hA', HX⟩ := Option.bind_eq_some_iff.1 HX
              obtain ⟨B', hB1, HX⟩ := Option.bind_eq_some_iff.1 HX
              have HF := Aside0.mk HX
              have HI := Aside0.mk hB1
              clear HX hB1
              go_wp2_with (first | (go_at_call 74; refine (impl_isWord.calls k b true _ ht).mono ?_; rintro e w2 ⟨rfl, hd⟩; have n1_ := Aside0.mk (blk_below BKS.out hd.below); have n2_ := Aside0.mk (blk_below BKR.out hd.below); have n3_ := Aside0.mk (Kd.R_below HL.out hd.below); have n4_ := Aside0.mk (Kd.R_below HT.out hd.below); have n5_ := Aside0.mk (below_step HB.out hd.below); clear hcS0 hcS1 hcS2 hcR0 hcR1 hcR2 hfR0 hfR1 hfR2 hd BKS BKR HL HT HB; have BKS := n1_; have BKR := n2_; have HL := n3_; have HT := n4_; have HB := n5_; clear n1_ n2_ n3_ n4_ n5_; have hcS0 : w2.cell? ⟨gS, 0, none⟩ = some (.int .i64 (l0.length : Int)) := (blk_cell BKS.out 0).trans rfl; have hcS1 : w2.cell? ⟨gS, 1, none⟩ = some (.slice (some ⟨gL, 0, none⟩) 6 6) := (blk_cell BKS.out 1).trans rfl; have hcS2 : w2.cell? ⟨gS, 2, none⟩ = some (.slice (some ⟨gT, 0, none⟩) 160 160) := (blk_cell BKS.out 2).trans rfl; have hcR0 : w2.cell? ⟨gR, 0, none⟩ = some (.int .i64 0) := (blk_cell BKR.out 0).trans rfl; have hcR1 : w2.cell? ⟨gR, 1, none⟩ = some (.slice none 0 0) := (blk_cell BKR.out 1).trans rfl; have hcR2 : w2.cell? ⟨gR, 2, none⟩ = some (.slice none 0 0) := (blk_cell BKR.out 2).trans rfl; have hfR0 := blk_frozen BKR.out 0; have hfR1 := blk_frozen BKR.out 1; have hfR2 := blk_frozen BKR.out 2) | (go_at_call 51; refine (impl_setLane.calls_sub k (fun k_ => k_ ≠ gT ∧ k_ ≠ gS ∧ k_ ≠ gR) gL 0 6 6 6 A (kk : Int) (b.size : Int) A' w _ HB.out hgL (by rw [hA]; exact HL.out) (by omega) (by decide) (by rw [List.drop_zero, List.take_of_length_le (by omega)]; exact hA')).mono ?_; rintro e w3 ⟨rfl, hr, hb, hkp⟩; have n1_ := Aside0.mk (KeepBut.blk hkp BKS.out hgLS.symm (by simp)); have n2_ := Aside0.mk (KeepBut.blk hkp BKR.out hgLR.symm (by simp)); have n3_ := Aside0.mk (show Kd.R (Kd.int .u64) 30 w3 w.heap.size (fun k_ => k_ ≠ gT ∧ k_ ≠ gS ∧ k_ ≠ gR) (.slice (some ⟨gL, 0, none⟩) 6 6) A' from by (have e_ : A.take 0 ++ (A' ++ A.drop (0 + 6)) = A' := (by rw [List.drop_eq_nil_of_le (by omega)]; simp); rw [e_, hA] at hr; exact hr)); have n4_ := Aside0.mk (Kd.R_keep HT.out hkp (fun k_ hk_ => hk_.1)); have n5_ := Aside0.mk hb; clear hcS0 hcS1 hcS2 hr hb hkp BKS BKR HL HT HB; have BKS := n1_; have BKR := n2_; have HL := n3_; have HT := n4_; have HB := n5_; clear n1_ n2_ n3_ n4_ n5_))
              have hA2 : A'.length = 6 := ((Kd.R_reads' HL.out).1).symm
              go_loopg [40] b.size (fun gg s40 wi => ∃ (p : Nat) (X : List Int), p ≤ b.size ∧ b.size - p ≤ gg ∧ s40 = .int .i64 p ∧ X.length = 160 ∧ Aside0 (wi.heap[gS]? = some (.cells #[.int .i64 (l0.length : Int), .slice (some ⟨gL, 0, none⟩) 6 6, .slice (some ⟨gT, 0, none⟩) 160 160] 37 (0, 0))) ∧ Aside0 (wi.heap[gR]? = some (.cells #[.int .i64 0, .slice none 0 0, .slice none 0 0] 37 (0, 0))) ∧ Aside0 (Kd.R (Kd.int .u64) 30 wi w.heap.size (fun k_ => k_ ≠ gT ∧ k_ ≠ gS ∧ k_ ≠ gR) (.slice (some ⟨gL, 0, none⟩) 6 6) A') ∧ Aside0 (Kd.R (Kd.int .u64) 30 wi w.heap.size (fun k_ => k_ ≠ gL ∧ k_ ≠ gS ∧ k_ ≠ gR) (.slice (some ⟨gT, 0, none⟩) 160 160) X) ∧ Aside0 (Below w.heap.size w wi) ∧ Aside0 (impl_planesOf.lets k b (kk : Int) (b.size - p) p X = some B'))
              case atStart => exact ⟨0, B, Nat.zero_le _, by omega, rfl, hB', BKS, BKR, HL, HT, HB, HI⟩
              case round =>
                clear BKS BKR HL HT HB HI
                obtain ⟨p, X, hp, hgp, rfl, hXl, BKS, BKR, HL, HT, HB, HI⟩ := hrel
                by_cases hpt : p < b.size
                · have hptz : (p : Int) < (b.size : Int) := by omega
                  have HY := HI.out
                  clear HI
                  rw [show b.size - p = (b.size - (p + 1)) + 1 from by omega] at HY
                  rw [impl_planesOf.lets] at HY
                  by_cases h5 : 5 * p + 5 ≤ X.length
                  · rw [if_pos h5] at HY
                    obtain ⟨r, hr, HY⟩ := Option.bind_eq_some_iff.1 HY
                    have HI := Aside0.mk HY
                    clear HY
                    have HSL := Aside0.mk hr
                    clear hr
                    have e5w : IntKind.i64.wrap (5 * (p : Int)) = 5 * (p : Int) := by rw [IntKind.wrap_i64]; omega
                    have e6w : IntKind.i64.wrap (5 * (p : Int) + 5) = 5 * (p : Int) + 5 := by rw [IntKind.wrap_i64]; omega
                    have hcS2 : wr.cell? ⟨gS, 2, none⟩ = some (.slice (some ⟨gT, 0, none⟩) 160 160) := (blk_cell BKS.out 2).trans rfl
                    go_wp2
                    refine wp_region_still_tail 15 (by kernel_rfl) (by kernel_rfl) ?_
                    simp only [List.take_succ_cons, List.take_zero, List.drop_succ_cons, List.drop_zero]
                    have HBd := Aside0.mk HB.out.drew
                    have HTd := Aside0.mk (Kd.R_drew HT.out)
                    have HLd := Aside0.mk (Kd.R_drew HL.out)
                    have BKSd := Aside0.mk (blk_drew BKS.out)
                    have BKRd := Aside0.mk (blk_drew BKR.out)
                    change wpStill _ _ (World.drew _) (fun a' => wpList _ _ _ _ a' (World.drew _)) _ _
                    generalize World.drew wr = W2 at HBd HTd HLd BKSd BKRd ⊢
                    clear hcS2 HB HT HL BKS BKR
                    have HB := HBd
                    have HT := HTd
                    have HL := HLd
                    have BKS := BKSd
                    have BKR := BKRd
                    clear HBd HTd HLd BKSd BKRd
                    have hcS2 : W2.cell? ⟨gS, 2, none⟩ = some (.slice (some ⟨gT, 0, none⟩) 160 160) := (blk_cell BKS.out 2).trans rfl
                    repeat still_step
                    try simp only [e5w]
                    refine wpStill_step (fun K hK => ?_)
                    go_simp
                    try simp only [e6w]
                    rw [if_pos (show 0 ≤ 5 * (p : Int) + 5 ∧ 5 * (p : Int) + 5 ≤ 160 by omega), if_pos (show 0 ≤ 5 * (p : Int) ∧ 5 * (p : Int) ≤ max (5 * (p : Int) + 5) 0 by omega), if_neg (show ¬ 160 = (5 * (p : Int)).toNat by omega), show (5 * (p : Int) + 5).toNat - (5 * (p : Int)).toNat = 5 from by omega, show (5 * (p : Int)).toNat = 5 * p from by omega]
                    dsimp only
                    refine ⟨rfl, hK _ ?_⟩
                    clear hK K
                    repeat still_step
                    refine wpStill_nil ?_
                    have hsl : impl_setLane.f k ((X.drop (5 * p)).take 5) (kk : Int) (wrap64 (wrap64 (((b[p]'hpt).toNat - 97 : Int) % 256) + 1)) = some r := by
                      have e_ : IntKind.u8.wrap (bt b (p : Int) - 97) = (((b[p]'hpt).toNat - 97 : Int) % 256) := by
                        rw [IntKind.wrap_u8, ← bt_at b (p : Int) (by simpa using hpt)]; rfl
                      rw [← e_]
                      exact HSL.out
                    have HSL2 := Aside0.mk hsl
                    clear hsl HSL
                    go_wp2_with (go_at_call 51; refine (impl_setLane.calls_sub k (fun k_ => k_ ≠ gL ∧ k_ ≠ gS ∧ k_ ≠ gR) gT (5 * p) 5 (160 - 5 * p) 160 X (kk : Int) _ r w _ HB.out hgT (by rw [hXl]; exact HT.out) (by omega) (by decide) HSL2.out).mono ?_; rintro e w3 ⟨rfl, hr, hb, hkp⟩; have n1_ := Aside0.mk (KeepBut.blk hkp BKS.out hgTS.symm (by simp)); have n2_ := Aside0.mk (KeepBut.blk hkp BKR.out hgTR.symm (by simp)); have n3_ := Aside0.mk (show Kd.R (Kd.int .u64) 30 w3 w.heap.size (fun k_ => k_ ≠ gL ∧ k_ ≠ gS ∧ k_ ≠ gR) (.slice (some ⟨gT, 0, none⟩) 160 160) (X.take (5 * p) ++ (r ++ X.drop (5 * p + 5))) from (by rw [hXl] at hr; exact hr)); have n4_ := Aside0.mk (Kd.R_keep HL.out hkp (fun k_ hk_ => hk_.1)); have n5_ := Aside0.mk hb; clear hcS2 hr hb hkp BKS BKR HL HT HB; have BKS := n1_; have BKR := n2_; have HT := n3_; have HL := n4_; have HB := n5_; clear n1_ n2_ n3_ n4_ n5_)
                    have hX2 : (X.take (5 * p) ++ (r ++ X.drop (5 * p + 5))).length = 160 := ((Kd.R_reads' HT.out).1).symm
                    all_goals (go_roundg (b.size - (p + 1)))
                    case measure => omega
                    case rel => exact ⟨p + 1, _, by omega, by omega, by go_num, hX2, BKS, BKR, HL, HT, HB, HI⟩
                  · rw [if_neg h5] at HY
                    exact absurd HY (by simp)
                · have hpe : p = b.size := by omega
                  have hptz : ¬ (p : Int) < (b.size : Int) := by omega
                  have HY := HI.out
                  clear HI
                  rw [show b.size - p = 0 from by omega] at HY
                  obtain rfl : X = B' := Option.some.inj HY
                  clear HY
                  go_wp2
                  all_goals (go_roundg (l0.length - (kk + 1)))
                  case measure => omega
                  case rel => exact ⟨kk + 1, A', X, by omega, by omega, by go_num, hA2, hXl, BKS, BKR, HL, HT, HB, HF⟩
            | false =>
              rw [if_neg (by simp)] at HX
              obtain rfl := Option.some.inj HX
              obtain ⟨rfl, rfl, rfl, rfl⟩ : (0 : Int) = r1 ∧ ([] : List Int) = r2 ∧ ([] : List Int) = r3 ∧ false = r4 := by simpa using HY.out
              clear HX
              go_wp2_with (go_at_call 74; refine (impl_isWord.calls k b false _ ht).mono ?_; rintro e w2 ⟨rfl, hd⟩; have n1_ := Aside0.mk (blk_below BKS.out hd.below); have n2_ := Aside0.mk (blk_below BKR.out hd.below); have n3_ := Aside0.mk (Kd.R_below HL.out hd.below); have n4_ := Aside0.mk (Kd.R_below HT.out hd.below); have n5_ := Aside0.mk (below_step HB.out hd.below); clear hcS0 hcS1 hcS2 hcR0 hcR1 hcR2 hfR0 hfR1 hfR2 hd BKS BKR HL HT HB; have BKS := n1_; have BKR := n2_; have HL := n3_; have HT := n4_; have HB := n5_; clear n1_ n2_ n3_ n4_ n5_; have hcS0 : w2.cell? ⟨gS, 0, none⟩ = some (.int .i64 (l0.length : Int)) := (blk_cell BKS.out 0).trans rfl; have hcS1 : w2.cell? ⟨gS, 1, none⟩ = some (.slice (some ⟨gL, 0, none⟩) 6 6) := (blk_cell BKS.out 1).trans rfl; have hcS2 : w2.cell? ⟨gS, 2, none⟩ = some (.slice (some ⟨gT, 0, none⟩) 160 160) := (blk_cell BKS.out 2).trans rfl; have hcR0 : w2.cell? ⟨gR, 0, none⟩ = some (.int .i64 0) := (blk_cell BKR.out 0).trans rfl; have hcR1 : w2.cell? ⟨gR, 1, none⟩ = some (.slice none 0 0) := (blk_cell BKR.out 1).trans rfl; have hcR2 : w2.cell? ⟨gR, 2, none⟩ = some (.slice none 0 0) := (blk_cell BKR.out 2).trans rfl; have hfR0 := blk_frozen BKR.out 0; have hfR1 := blk_frozen BKR.out 1; have hfR2 := blk_frozen BKR.out 2)
              refine bodyPost_ret (results_ct rfl _ _ gR 37 #[.int .i64 0, .slice none 0 0, .slice none 0 0] (0, 0) _ rfl (by refine blk_put (cs := #[.int .i64 0, .slice none 0 0, .slice none 0 0]) ?_ 2 _ rfl; refine blk_put (cs := #[.int .i64 0, .slice none 0 0, .slice none 0 0]) ?_ 1 _ rfl; refine blk_put (cs := #[.int .i64 0, .slice none 0 0, .slice none 0 0]) ?_ 0 _ rfl; exact BKR.out) Try.underlying37 rfl (by kernel_rfl)) rfl ?_
              exact ⟨_, _, rfl, Kd.R_nil _ _ _ _ _, Kd.R_nil _ _ _ _ _, below_set (below_set (below_set HB.out GR.out) GR.out) GR.out⟩
        · have hltz : ¬ (kk : Int) < (l0.length : Int) := by omega
          have HX := HF.out
          rw [List.drop_eq_nil_of_le (by omega)] at HX
          obtain rfl := Option.some.inj HX
          obtain ⟨rfl, rfl, rfl, rfl⟩ : (l0.length : Int) = r1 ∧ A = r2 ∧ B = r3 ∧ true = r4 := by simpa using HY.out
          clear HX
          have hcS0 : wr.cell? ⟨gS, 0, none⟩ = some (.int .i64 (l0.length : Int)) := (blk_cell BKS.out 0).trans rfl; have hcS1 : wr.cell? ⟨gS, 1, none⟩ = some (.slice (some ⟨gL, 0, none⟩) 6 6) := (blk_cell BKS.out 1).trans rfl; have hcS2 : wr.cell? ⟨gS, 2, none⟩ = some (.slice (some ⟨gT, 0, none⟩) 160 160) := (blk_cell BKS.out 2).trans rfl
          have hcR0 : wr.cell? ⟨gR, 0, none⟩ = some (.int .i64 0) := (blk_cell BKR.out 0).trans rfl; have hcR1 : wr.cell? ⟨gR, 1, none⟩ = some (.slice none 0 0) := (blk_cell BKR.out 1).trans rfl; have hcR2 : wr.cell? ⟨gR, 2, none⟩ = some (.slice none 0 0) := (blk_cell BKR.out 2).trans rfl; have hfR0 := blk_frozen BKR.out 0; have hfR1 := blk_frozen BKR.out 1; have hfR2 := blk_frozen BKR.out 2
          go_wp2
          refine bodyPost_ret (results_ct rfl _ _ gR 37 #[.int .i64 (l0.length : Int), .slice (some ⟨gL, 0, none⟩) 6 6, .slice (some ⟨gT, 0, none⟩) 160 160] (0, 0) _ rfl (by refine blk_put (cs := #[.int .i64 (l0.length : Int), .slice (some ⟨gL, 0, none⟩) 6 6, .slice none 0 0]) ?_ 2 _ rfl; refine blk_put (cs := #[.int .i64 (l0.length : Int), .slice none 0 0, .slice none 0 0]) ?_ 1 _ rfl; refine blk_put (cs := #[.int .i64 0, .slice none 0 0, .slice none 0 0]) ?_ 0 _ rfl; exact BKR.out) Try.underlying37 rfl (by kernel_rfl)) rfl ?_
          have q1 := Kd.R_step HL.out (w1 := ((wr.setCell ⟨gR, 0, none⟩ (.int .i64 (l0.length : Int))).setCell ⟨gR, 1, none⟩ (.slice (some ⟨gL, 0, none⟩) 6 6)).setCell ⟨gR, 2, none⟩ (.slice (some ⟨gT, 0, none⟩) 160 160)) (fun k_ hk_ _ => ((Below.heap_setCell _ _ _ k_ hk_.2.2).trans (Below.heap_setCell _ _ _ k_ hk_.2.2)).trans (Below.heap_setCell _ _ _ k_ hk_.2.2))
          have q2 := Kd.R_step HT.out (w1 := ((wr.setCell ⟨gR, 0, none⟩ (.int .i64 (l0.length : Int))).setCell ⟨gR, 1, none⟩ (.slice (some ⟨gL, 0, none⟩) 6 6)).setCell ⟨gR, 2, none⟩ (.slice (some ⟨gT, 0, none⟩) 160 160)) (fun k_ hk_ _ => ((Below.heap_setCell _ _ _ k_ hk_.2.2).trans (Below.heap_setCell _ _ _ k_ hk_.2.2)).trans (Below.heap_setCell _ _ _ k_ hk_.2.2))
          exact ⟨_, _, rfl, Kd.R_mono q1 (fun k_ hk_ => by (intro e_; exact hk_.1 (by simpa [Value.ownBlock] using e_))), Kd.R_mono q2 (fun k_ hk_ => by (intro e_; exact hk_.1 (by simpa [Value.ownBlock] using e_))), below_set (below_set (below_set HB.out GR.out) GR.out) GR.out⟩

/-! ### slices_Equal_uint64_uint64: function 76 -/
def slices_Equal_uint64_uint64.l0 : Nat → List Int → List Int → Int → Int → Option (Bool)
  | 0, _, _, _, _ => none
  | k + 1, x0, x1, x12, x13 => if x13 < x12 then (if 0 ≤ x13 then (if x13 < (x0.length : Int) then (if x13 < (x1.length : Int) then (if (rd x0 x13) = (rd x1 x13) then (slices_Equal_uint64_uint64.l0 k x0 x1 x12 (wrap64 (x13 + 1))) else (some false)) else (none)) else (none)) else (none)) else (some true)
def slices_Equal_uint64_uint64.f (k : Nat) (l0 : List Int) (l1 : List Int) : Option (Bool) := if (l0.length : Int) = (l1.length : Int) then (slices_Equal_uint64_uint64.l0 k l0 l1 (l0.length : Int) 0) else (some false)
theorem slices_Equal_uint64_uint64.mono_l : ∀ k, (∀ y0 y1 y2 y3, LeO (slices_Equal_uint64_uint64.l0 k y0 y1 y2 y3) (slices_Equal_uint64_uint64.l0 (k + 1) y0 y1 y2 y3))
  | 0 => fun _ _ _ _ r h => by simp [slices_Equal_uint64_uint64.l0] at h
  | k + 1 => by
    have ih0 := slices_Equal_uint64_uint64.mono_l k
    · intro y0 y1 y2 y3
      unfold slices_Equal_uint64_uint64.l0
      repeat' first
      | (with_reducible exact ih0 _ _ _ _)
      | (with_reducible exact LeO.refl _)
      | (with_reducible exact LeO.none _)
      | (with_reducible refine LeO.ite ?_ ?_)
      | (with_reducible refine LeO.bind ?_ (fun _ => ?_))
      | exact ih0 _ _ _ _
      | exact LeO.none _
      | refine LeO.ite ?_ ?_
      | refine LeO.bind ?_ (fun _ => ?_)
theorem slices_Equal_uint64_uint64.mono : ∀ a0 a1 k, LeO (slices_Equal_uint64_uint64.f k a0 a1) (slices_Equal_uint64_uint64.f (k + 1) a0 a1) := by
  intro a0 a1 k
  have ih0 := slices_Equal_uint64_uint64.mono_l k
  unfold slices_Equal_uint64_uint64.f
  repeat' first
      | (with_reducible exact ih0 _ _ _ _)
      | (with_reducible exact LeO.refl _)
      | (with_reducible exact LeO.none _)
      | (with_reducible refine LeO.ite ?_ ?_)
      | (with_reducible refine LeO.bind ?_ (fun _ => ?_))
      | exact ih0 _ _ _ _
      | exact LeO.none _
      | refine LeO.ite ?_ ?_
      | refine LeO.bind ?_ (fun _ => ?_)
set_option maxHeartbeats 8000000 in
set_option maxRecDepth 100000 in
theorem slices_Equal_uint64_uint64.calls (k : Nat) (A0 : Option Addr) (c0 : Nat) (l0 : List Int) (A1 : Option Addr) (c1 : Nat) (l1 : List Int) (r : Bool) (w : World) (hr0 : Kd.C (Kd.int .u64) w A0 l0.length l0) (hc0 : l0.length ≤ c0) (hr1 : Kd.C (Kd.int .u64) w A1 l1.length l1) (hc1 : l1.length ≤ c1) (h : slices_Equal_uint64_uint64.f k l0 l1 = some r) :
    Calls Try.prog 76 #[.slice A0 l0.length c0, .slice A1 l1.length c1] w fun e w' => e = .returned (.bool r) ∧ Drawn0 w w' := by
  have HR0 := Aside0.mk hr0
  have HC0 := Aside0.mk hc0
  clear hr0 hc0
  have HR1 := Aside0.mk hr1
  have HC1 := Aside0.mk hc1
  clear hr1 hc1
  have H : (if (l0.length : Int) = (l1.length : Int) then (slices_Equal_uint64_uint64.l0 k l0 l1 (l0.length : Int) 0) else (some false)) = some r := h
  clear h
  by_cases c3 : (l0.length : Int) = (l1.length : Int)
  · rw [if_pos c3] at H
    have c3b0 : ((l0.length : Int) == (l1.length : Int)) = true := beq_iff_eq.mpr c3
    have c3b1 : ((l0.length : Int) != (l1.length : Int)) = false := bne_eq_false_iff_eq.mpr c3
    have c3b2 : (l0.length == l1.length) = true := by first | simpa using c3 | (simp at c3 ⊢; omega)
    clear c3
    have H' := Aside0.mk H
    clear H
    go_enter Try.func76, Try.ntmps76
    go_wp2
    repeat (go_quiet (fail); try go_wp2)
    go_loopg [13] k (fun kq v13 w' => ∃ (x13_1 : Int), v13 = .int .i64 x13_1 ∧ Aside0 (slices_Equal_uint64_uint64.l0 kq l0 l1 (l0.length : Int) x13_1 = some r) ∧ Aside0 (kq ≤ k) ∧ Drawn0 w w')
    case atStart => exact ⟨(0), (by first | rfl | (simp; done) | (simp [*]; done)), H', ⟨Nat.le_refl _⟩, by repeat (first | exact Drawn0.refl _ | apply Drawn0.step)⟩
    case round =>
      clear H'
      try clear c1
      try clear p2
      try clear c3
      try clear c3b0
      try clear c3b1
      try clear c3b2
      obtain ⟨x13_1, rfl, HA, HK1, ⟨m1, rfl⟩⟩ := hrel
      cases gk with
      | zero => exact absurd HA.out (by simp [slices_Equal_uint64_uint64.l0])
      | succ k1 =>
        have H := HA.out
        clear HA
        simp only [slices_Equal_uint64_uint64.l0] at H
        by_cases c4 : x13_1 < (l0.length : Int)
        · rw [if_pos c4] at H
          have c4b0 : decide (x13_1 < (l0.length : Int)) = true := decide_eq_true c4
          clear c4
          by_cases c5 : 0 ≤ x13_1
          · rw [if_pos c5] at H
            have c5b0 : decide (0 ≤ x13_1) = true := decide_eq_true c5
            clear c5
            by_cases c6 : x13_1 < (l0.length : Int)
            · rw [if_pos c6] at H
              have c6b0 : decide (x13_1 < (l0.length : Int)) = true := decide_eq_true c6
              clear c6
              by_cases c7 : x13_1 < (l1.length : Int)
              · rw [if_pos c7] at H
                have c7b0 : decide (x13_1 < (l1.length : Int)) = true := decide_eq_true c7
                clear c7
                by_cases c8 : (rd l0 x13_1) = (rd l1 x13_1)
                · rw [if_pos c8] at H
                  have c8b0 : ((rd l0 x13_1) == (rd l1 x13_1)) = true := beq_iff_eq.mpr c8
                  have c8b1 : ((rd l0 x13_1) != (rd l1 x13_1)) = false := bne_eq_false_iff_eq.mpr c8
                  clear c8
                  have H' := Aside0.mk H
                  clear H
                  have p307 : 0 ≤ (x13_1 : Int) := of_decide_eq_true (by first | (with_reducible assumption) | assumption)
                  have q307 : x13_1 < (l0.length : Int) := of_decide_eq_true (by first | (with_reducible assumption) | assumption)
                  obtain ⟨ad307, e307, hx307_0⟩ := Kd.at_int HR0.out x13_1 p307 q307
                  cases e307
                  replace p307 := eq_true p307
                  replace q307 := eq_true q307
                  have p308 : 0 ≤ (x13_1 : Int) := of_decide_eq_true (by first | (with_reducible assumption) | assumption)
                  have q308 : x13_1 < (l1.length : Int) := of_decide_eq_true (by first | (with_reducible assumption) | assumption)
                  obtain ⟨ad308, e308, hx308_0⟩ := Kd.at_int HR1.out x13_1 p308 q308
                  cases e308
                  replace p308 := eq_true p308
                  replace q308 := eq_true q308
                  go_wp2
                  repeat (go_quiet (fail); try go_wp2)
                  go_roundg k1
                  case measure => have := HK1.out; omega
                  case rel => exact ⟨(wrap64 (x13_1 + 1)), (by first | rfl | (simp; done) | (simp [*]; done)), H', ⟨by have := HK1.out; omega⟩, by repeat (first | exact Drawn0.refl _ | apply Drawn0.step)⟩
                · rw [if_neg c8] at H
                  have c8b0 : ((rd l0 x13_1) == (rd l1 x13_1)) = false := beq_eq_false_iff_ne.mpr c8
                  have c8b1 : ((rd l0 x13_1) != (rd l1 x13_1)) = true := bne_iff_ne.mpr c8
                  obtain rfl := Option.some.inj H
                  have p307 : 0 ≤ (x13_1 : Int) := of_decide_eq_true (by first | (with_reducible assumption) | assumption)
                  have q307 : x13_1 < (l0.length : Int) := of_decide_eq_true (by first | (with_reducible assumption) | assumption)
                  obtain ⟨ad307, e307, hx307_0⟩ := Kd.at_int HR0.out x13_1 p307 q307
                  cases e307
                  replace p307 := eq_true p307
                  replace q307 := eq_true q307
                  have p308 : 0 ≤ (x13_1 : Int) := of_decide_eq_true (by first | (with_reducible assumption) | assumption)
                  have q308 : x13_1 < (l1.length : Int) := of_decide_eq_true (by first | (with_reducible assumption) | assumption)
                  obtain ⟨ad308, e308, hx308_0⟩ := Kd.at_int HR1.out x13_1 p308 q308
                  cases e308
                  replace p308 := eq_true p308
                  replace q308 := eq_true q308
                  go_wp2
                  repeat (go_quiet (fail); try go_wp2)
                  go_ret
                  exact ⟨by first | rfl | (simp; done) | (simp [*]; done), by repeat (first | exact Drawn0.refl _ | apply Drawn0.step)⟩
              · rw [if_neg c7] at H
                exact absurd H (by simp)
            · rw [if_neg c6] at H
              exact absurd H (by simp)
          · rw [if_neg c5] at H
            exact absurd H (by simp)
        · rw [if_neg c4] at H
          have c4b0 : decide (x13_1 < (l0.length : Int)) = false := decide_eq_false c4
          clear c4
          obtain rfl := Option.some.inj H
          go_wp2
          repeat (go_quiet (fail); try go_wp2)
          go_ret
          exact ⟨by first | rfl | (simp; done) | (simp [*]; done), by repeat (first | exact Drawn0.refl _ | apply Drawn0.step)⟩
  · rw [if_neg c3] at H
    have c3b0 : ((l0.length : Int) == (l1.length : Int)) = false := beq_eq_false_iff_ne.mpr c3
    have c3b1 : ((l0.length : Int) != (l1.length : Int)) = true := bne_iff_ne.mpr c3
    have c3b2 : (l0.length == l1.length) = false := by first | simpa using c3 | (simp at c3 ⊢; omega)
    obtain rfl := Option.some.inj H
    go_enter Try.func76, Try.ntmps76
    go_wp2
    repeat (go_quiet (fail); try go_wp2)
    go_ret
    exact ⟨by first | rfl | (simp; done) | (simp [*]; done), by repeat (first | exact Drawn0.refl _ | apply Drawn0.step)⟩

end Go.Proofs.Ytljmhhadclgegaa.PFnExactBatchCapped

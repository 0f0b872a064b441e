-- Laid by a program of this session: what the print of the kit writes, and contracts of the session where the print takes no function. Lean checks it.
import Derived.Test.YtggfndobfpmoaaaPFnEvictedx0
import Derived.Test.YtggfndobfpmoaaaPFnEvictedx11
namespace Go.Proofs.Ytggfndobfpmoaaa.PFnEvicted
open Go.RowKit Go.Proofs.YtggfndobfpmoaaaW.PrintWords Go.Proofs.YtggfndobfpmoaaaW.PrintLast Go.Proofs.YtggfndobfpmoaaaW.PrintMore
attribute [local go_sem] max2_int min2_int max_two min_two max_three min_three max_four min_four   -- for this text's walks alone
set_option linter.unusedVariables false
set_option linter.unusedSimpArgs false

/-! ### impl_evict: function 73 -/
def meetV (lg b lf : Int) : Int := (impl_meet.f lg b lf).getD 0
def evStep {α : Type} (pr : α → S26) (lg lf lv : Int) (s : Nat × List α × List S67) (x : α) : Nat × List α × List S67 :=
  if s.1 = 4 ∨ meetV lg (pr x).f1 lf < lv then (s.1, s.2.1 ++ [x], s.2.2) else (s.1 + 1, s.2.1, s.2.2 ++ [⟨lv, (pr x).f0⟩])
def evLevel {α : Type} (pr : α → S26) (lg lf lv : Int) (l : List α) : Nat × List α × List S67 := l.foldl (evStep pr lg lf lv) (0, [], [])
/-- The levels n - 1, n - 2, .., 0. -/
def evLevels {α : Type} (pr : α → S26) (lg lf : Int) : Nat → List α → List S67 → List S67 × List α
  | 0, l, ps => (ps, l)
  | n + 1, l, ps => evLevels pr lg lf n (evLevel pr lg lf (n : Int) l).2.1 (ps ++ (evLevel pr lg lf (n : Int) l).2.2)
def impl_evict.f (l0 : List S26) (a1 a2 : Int) : Option (List S67 × List S26) := if l0.length ≤ 1000 ∧ 0 ≤ a1 ∧ a1 ≤ 100 then some (evLevels id a1 a2 (a1 + 1).toNat l0 []) else none
-- DEV
theorem meet_some (lg b lf : Int) : impl_meet.f lg b lf = some (meetV lg b lf) := by
  have h : 0 ≤ IntKind.u64.wrap (Go.bits .xor .i64 b lf) ∧ IntKind.u64.wrap (Go.bits .xor .i64 b lf) ≤ 18446744073709551615 := by
    rw [IntKind.wrap_u64]; omega
  unfold meetV impl_meet.f bits_Len.f
  rw [if_pos h.1, if_pos h.2]
  rfl
/-- Where evict's variables lie, and what they hold: the number of blocks taken at this level, and all puts so far. -/
def Pl (base : Nat) (W : World) (bc bl bf bv bp g : Nat) (lg lf lv : Int) (c : Nat) (ps : List S67) : Prop :=
  W.heap[bc]? = some (.cells #[.int .i64 (c : Int)] 3 (0, 0)) ∧ W.heap[bl]? = some (.cells #[.int .i64 lg] 3 (0, 0)) ∧ W.heap[bf]? = some (.cells #[.int .i64 lf] 3 (0, 0)) ∧ W.heap[bv]? = some (.cells #[.int .i64 lv] 3 (0, 0)) ∧
  ∃ v, W.heap[bp]? = some (.cells #[v] 61 (0, 0)) ∧ Kd.R k67 67 W base (fun k => k ≠ g ∧ k ≠ bc ∧ k ≠ bl ∧ k ≠ bf ∧ k ≠ bv ∧ k ≠ bp) v ps
def Ds (base bc bl bf bv bp g : Nat) : Prop := (base ≤ bc ∧ base ≤ bp ∧ base ≤ g) ∧ (bc ≠ bl ∧ bc ≠ bf ∧ bc ≠ bv ∧ bc ≠ bp ∧ bc ≠ g) ∧ (bp ≠ bl ∧ bp ≠ bf ∧ bp ≠ bv ∧ bp ≠ g) ∧ g ≠ bl ∧ g ≠ bf ∧ g ≠ bv
theorem pl_below {base bc bl bf bv bp g c : Nat} {W w1 : World} {lg lf lv : Int} {ps : List S67} (h : Pl base W bc bl bf bv bp g lg lf lv c ps) (hb : Below W.heap.size W w1) : Pl base w1 bc bl bf bv bp g lg lf lv c ps := by
  obtain ⟨h1, h2, h3, h4, v, h5, h6⟩ := h
  exact ⟨blk_below h1 hb, blk_below h2 hb, blk_below h3 hb, blk_below h4 hb, v, blk_below h5 hb, Kd.R_below h6 hb⟩
theorem pl_cell {base bc bl bf bv bp g c : Nat} {W : World} {lg lf lv : Int} {ps : List S67} (h : Pl base W bc bl bf bv bp g lg lf lv c ps) (hd : Ds base bc bl bf bv bp g) (o : Nat) (u : Value) : Pl base (W.setCell ⟨g, o, none⟩ u) bc bl bf bv bp g lg lf lv c ps := by
  obtain ⟨h1, h2, h3, h4, v, h5, h6⟩ := h
  obtain ⟨_, ⟨_, _, _, _, d1⟩, ⟨_, _, _, d2⟩, d3, d4, d5⟩ := hd
  exact ⟨blk_far h1 d1 u, blk_far h2 (fun e => d3 e.symm) u, blk_far h3 (fun e => d4 e.symm) u, blk_far h4 (fun e => d5 e.symm) u, v, blk_far h5 d2 u, Kd.R_far (p := ⟨g, o, none⟩) h6 (fun k hk e => hk.1 e) u⟩
theorem pl_cells {base bc bl bf bv bp g c : Nat} {lg lf lv : Int} {ps : List S67} (hd : Ds base bc bl bf bv bp g) : ∀ (vs : List Value) (o : Nat) (W : World), Pl base W bc bl bf bv bp g lg lf lv c ps → Pl base (W.setCells g o vs) bc bl bf bv bp g lg lf lv c ps
  | [], _, _, h => h
  | u :: r, o, W, h => pl_cells hd r (o + 1) _ (pl_cell h hd o u)
set_option maxHeartbeats 1000000 in
theorem ev_no (f0 f1 : Int) (v2 : Value) (hv : v2.oneCell' = true) (base bc bl bf bv bp g c : Nat) (lg lf lv : Int) (ps : List S67) (w : World) (hP : Pl base w bc bl bf bv bp g lg lf lv c ps) (hn : c = 4 ∨ meetV lg f1 lf < lv) :
    Calls Try.prog 90 #[.agg #[.int .i64 f0, .int .i64 f1, v2], .pointer (some ⟨bc, 0, none⟩), .pointer (some ⟨bl, 0, none⟩), .pointer (some ⟨bf, 0, none⟩), .pointer (some ⟨bv, 0, none⟩), .pointer (some ⟨bp, 0, none⟩)] w fun e w' => e = .returned (.bool false) ∧ Below w.heap.size w w' := by
 have huw := Try.underlying26
 obtain ⟨h1, h2, h3, h4, v, h5, h6⟩ := hP
 have HB := Aside0.mk ((Below.refl w.heap.size w).alloc (Nat.le_refl _) (.cells #[.int .i64 f0, .int .i64 f1, v2] 26))
 have q1 : (w.alloc (.cells #[.int .i64 f0, .int .i64 f1, v2] 26)).cell? ⟨bc, 0, none⟩ = some (.int .i64 (c : Int)) := (blk_cell (blk_alloc h1 _) 0).trans rfl
 have q2 : (w.alloc (.cells #[.int .i64 f0, .int .i64 f1, v2] 26)).cell? ⟨bl, 0, none⟩ = some (.int .i64 lg) := (blk_cell (blk_alloc h2 _) 0).trans rfl
 have q3 : (w.alloc (.cells #[.int .i64 f0, .int .i64 f1, v2] 26)).cell? ⟨bf, 0, none⟩ = some (.int .i64 lf) := (blk_cell (blk_alloc h3 _) 0).trans rfl
 have q4 : (w.alloc (.cells #[.int .i64 f0, .int .i64 f1, v2] 26)).cell? ⟨bv, 0, none⟩ = some (.int .i64 lv) := (blk_cell (blk_alloc h4 _) 0).trans rfl
 have q6 : (w.alloc (.cells #[.int .i64 f0, .int .i64 f1, v2] 26)).cell? ⟨w.heap.size, 1, none⟩ = some (.int .i64 f1) := World.cell?_alloc_new _ _ _ _
 have HM := Aside0.mk (meet_some lg f1 lf)
 clear h1 h2 h3 h4 h5 h6
 by_cases hc : c = 4
 ·
  have hc4 : ((c : Int) == 4) = true := by rw [hc]; rfl
  clear hn
  go_enter Try.func90, Try.ntmps90
  go_wp2
  go_quiet (fail)
  go_wp2
  go_ret
  exact ⟨rfl, pw_below_drewN HB.out _⟩
 have hc4 : ((c : Int) == 4) = false := by rw [beq_eq_false_iff_ne]; omega
 have hlt : decide (meetV lg f1 lf < lv) = true := decide_eq_true (by omega)
 generalize meetV lg f1 lf = m at *
 go_enter Try.func90, Try.ntmps90
 go_wp2
 go_quiet ((go_at_call 91; (with_reducible refine (impl_meet.calls lg f1 lf m _ HM.out).mono ?_); rintro e w' ⟨rfl, ⟨nd, rfl⟩⟩; exact ⟨rfl, _, World.drewN_drewN _ _ _⟩))
 go_wp2
 go_ret
 exact ⟨rfl, pw_below_drewN HB.out _⟩
theorem blk_far_ {w : World} {g : Nat} {o : Obj} (h : w.heap[g]? = some o) {p : Addr} (hp : g ≠ p.block) (u : Value) : (w.setCell p u).heap[g]? = some o := (Below.heap_setCell _ _ _ _ hp).trans h
theorem size_set_ (w : World) (p : Addr) (u : Value) : (w.setCell p u).heap.size = w.heap.size := by simp [World.setCell]
set_option maxHeartbeats 4000000 in
set_option maxRecDepth 100000 in
theorem ev_yes (f0 f1 : Int) (v2 : Value) (hv : v2.oneCell' = true) (base bc bl bf bv bp g c : Nat) (lg lf lv : Int) (ps : List S67) (w : World) (o : Obj) (hP : Pl base w bc bl bf bv bp g lg lf lv c ps) (hD : Ds base bc bl bf bv bp g) (hbw : base ≤ w.heap.size) (hgo : w.heap[g]? = some o) (hn : ¬ (c = 4 ∨ meetV lg f1 lf < lv)) (hc : c ≤ 4) (hps : ps.length ≤ 1000000) :
    Calls Try.prog 90 #[.agg #[.int .i64 f0, .int .i64 f1, v2], .pointer (some ⟨bc, 0, none⟩), .pointer (some ⟨bl, 0, none⟩), .pointer (some ⟨bf, 0, none⟩), .pointer (some ⟨bv, 0, none⟩), .pointer (some ⟨bp, 0, none⟩)] w fun e w' => e = .returned (.bool true) ∧ Pl base w' bc bl bf bv bp g lg lf lv (c + 1) (ps ++ [⟨lv, f0⟩]) ∧ Below base w w' ∧ w'.heap[g]? = some o := by
 have huw := Try.underlying26
 have hup := Try.underlying67
 obtain ⟨h1, h2, h3, h4, v, h5, h6⟩ := hP
 obtain ⟨⟨d1, d2, d3⟩, ⟨d4, d5, d6, d7, d8⟩, ⟨d9, d10, d11, d12⟩, d13, d14, d15⟩ := hD
 have hs : bc < w.heap.size ∧ bl < w.heap.size ∧ bf < w.heap.size ∧ bv < w.heap.size ∧ bp < w.heap.size ∧ g < w.heap.size := ⟨blk_lt h1, blk_lt h2, blk_lt h3, blk_lt h4, blk_lt h5, blk_lt hgo⟩
 have HS := Aside0.mk hs
 have q1 : (w.alloc (.cells #[.int .i64 f0, .int .i64 f1, v2] 26)).cell? ⟨bc, 0, none⟩ = some (.int .i64 (c : Int)) := (blk_cell (blk_alloc h1 _) 0).trans rfl
 have q2 : (w.alloc (.cells #[.int .i64 f0, .int .i64 f1, v2] 26)).cell? ⟨bl, 0, none⟩ = some (.int .i64 lg) := (blk_cell (blk_alloc h2 _) 0).trans rfl
 have q3 : (w.alloc (.cells #[.int .i64 f0, .int .i64 f1, v2] 26)).cell? ⟨bf, 0, none⟩ = some (.int .i64 lf) := (blk_cell (blk_alloc h3 _) 0).trans rfl
 have q4 : (w.alloc (.cells #[.int .i64 f0, .int .i64 f1, v2] 26)).cell? ⟨bv, 0, none⟩ = some (.int .i64 lv) := (blk_cell (blk_alloc h4 _) 0).trans rfl
 have HH := Aside0.mk (⟨blk_alloc h1 _, blk_alloc h2 _, blk_alloc h3 _, blk_alloc h4 _, blk_alloc h5 _, blk_alloc hgo _, blk_new w _, Kd.R_alloc h6 _⟩ : (w.alloc (.cells #[.int .i64 f0, .int .i64 f1, v2] 26)).heap[bc]? = some (.cells #[.int .i64 (c : Int)] 3 (0, 0)) ∧ (w.alloc (.cells #[.int .i64 f0, .int .i64 f1, v2] 26)).heap[bl]? = some (.cells #[.int .i64 lg] 3 (0, 0)) ∧ (w.alloc (.cells #[.int .i64 f0, .int .i64 f1, v2] 26)).heap[bf]? = some (.cells #[.int .i64 lf] 3 (0, 0)) ∧ (w.alloc (.cells #[.int .i64 f0, .int .i64 f1, v2] 26)).heap[bv]? = some (.cells #[.int .i64 lv] 3 (0, 0)) ∧ (w.alloc (.cells #[.int .i64 f0, .int .i64 f1, v2] 26)).heap[bp]? = some (.cells #[v] 61 (0, 0)) ∧ (w.alloc (.cells #[.int .i64 f0, .int .i64 f1, v2] 26)).heap[g]? = some o ∧ (w.alloc (.cells #[.int .i64 f0, .int .i64 f1, v2] 26)).heap[w.heap.size]? = some (.cells #[.int .i64 f0, .int .i64 f1, v2] 26) ∧ Kd.R k67 67 (w.alloc (.cells #[.int .i64 f0, .int .i64 f1, v2] 26)) base (fun k => k ≠ g ∧ k ≠ bc ∧ k ≠ bl ∧ k ≠ bf ∧ k ≠ bv ∧ k ≠ bp) v ps)
 have HBA := Aside0.mk ((Below.refl base w).alloc hbw (.cells #[.int .i64 f0, .int .i64 f1, v2] 26))
 have HSZ := Aside0.mk (show (w.alloc (.cells #[.int .i64 f0, .int .i64 f1, v2] 26)).heap.size = w.heap.size + 1 by simp)
 have HD := Aside0.mk (⟨⟨d1, d2, d3⟩, ⟨d4, d5, d6, d7, d8⟩, ⟨d9, d10, d11, d12⟩, d13, d14, d15⟩ : Ds base bc bl bf bv bp g)
 have q6 : (w.alloc (.cells #[.int .i64 f0, .int .i64 f1, v2] 26)).cell? ⟨w.heap.size, 1, none⟩ = some (.int .i64 f1) := World.cell?_alloc_new _ _ _ _
 have HM := Aside0.mk (meet_some lg f1 lf)
 have HV := Aside0.mk (Kd.R_val h6).2
 have HNO := Aside0.mk h6.1
 have HBW := Aside0.mk hbw
 have HPS := Aside0.mk hps
 have hc4 : ((c : Int) == 4) = false := by rw [beq_eq_false_iff_ne]; omega
 have hlt : decide (meetV lg f1 lf < lv) = false := decide_eq_false (by omega)
 have hx1 : wrap64 ((c : Int) + 1) = ((c + 1 : Nat) : Int) := by unfold wrap64; omega
 have n1 : bc ≠ bp := d7
 have n2 : bc ≠ bv := d6
 have n3 : bc ≠ w.heap.size := by omega
 have n1' : bp ≠ bc := fun e => d7 e.symm
 have n2' : bv ≠ bc := fun e => d6 e.symm
 have n3' : w.heap.size ≠ bc := by omega
 clear h1 h2 h3 h4 h5 h6 hn hgo d1 d2 d3 d4 d5 d6 d7 d8 d9 d10 d11 d12 d13 d14 d15 hs hbw hps
 generalize meetV lg f1 lf = m at *
 go_enter Try.func90, Try.ntmps90
 go_wp2
 go_quiet ((go_at_call 91; (with_reducible refine (impl_meet.calls lg f1 lf m _ HM.out).mono ?_); rintro e w' ⟨rfl, ⟨nd, rfl⟩⟩; exact ⟨rfl, _, World.drewN_drewN _ _ _⟩))
 obtain ⟨W, hW⟩ : ∃ W, (w.alloc (.cells #[.int .i64 f0, .int .i64 f1, v2] 26)).drewN nq = W := ⟨_, rfl⟩
 rw [hW]
 have HB := Aside0.mk (hW ▸ pw_below_drewN HBA.out nq)
 have HZ := Aside0.mk (show W.heap.size = w.heap.size + 1 from hW ▸ HSZ.out)
 have b1 := Aside0.mk (show W.heap[bc]? = _ from hW ▸ blk_drewN HH.out.1 nq)
 have b2 := Aside0.mk (show W.heap[bl]? = _ from hW ▸ blk_drewN HH.out.2.1 nq)
 have b3 := Aside0.mk (show W.heap[bf]? = _ from hW ▸ blk_drewN HH.out.2.2.1 nq)
 have b4 := Aside0.mk (show W.heap[bv]? = _ from hW ▸ blk_drewN HH.out.2.2.2.1 nq)
 have b5 := Aside0.mk (show W.heap[bp]? = _ from hW ▸ blk_drewN HH.out.2.2.2.2.1 nq)
 have b6 := Aside0.mk (show W.heap[g]? = _ from hW ▸ blk_drewN HH.out.2.2.2.2.2.1 nq)
 have b7 := Aside0.mk (show W.heap[w.heap.size]? = _ from hW ▸ blk_drewN HH.out.2.2.2.2.2.2.1 nq)
 have b8 := Aside0.mk (show Kd.R k67 67 W base _ v ps from hW ▸ Kd.R_drewN HH.out.2.2.2.2.2.2.2 nq)
 clear hW
 have c1 : W.cell? ⟨bc, 0, none⟩ = some (.int .i64 (c : Int)) := (blk_cell b1.out 0).trans rfl
 have g1 : W.frozen? ⟨bc, 0, none⟩ = false := blk_frozen b1.out 0
 go_upto_region 4 with fail
 clear c1 g1
 obtain ⟨X, W2, hX, hW2⟩ : ∃ X W2, X = Value.int .i64 ((c + 1 : Nat) : Int) ∧ W.setCell ⟨bc, 0, none⟩ X = W2 := ⟨_, _, rfl, rfl⟩
 rw [show ∀ z : Int, z = ((c + 1 : Nat) : Int) → W.setCell ⟨bc, 0, none⟩ (.int .i64 z) = W2 from fun z hz => by rw [hz, ← hX, hW2]]
 rotate_left
 ·
  rfl
 have HB1 := Aside0.mk (show Below base w W2 from hW2 ▸ HB.out.setCell (p := ⟨bc, 0, none⟩) HD.out.1.1 X)
 have HZ1 := Aside0.mk (show W2.heap.size = w.heap.size + 1 from hW2 ▸ (size_set_ W _ X).trans HZ.out)
 have a1 := Aside0.mk (show W2.heap[bc]? = some (.cells #[.int .i64 ((c + 1 : Nat) : Int)] 3 (0, 0)) from hW2 ▸ blk_put b1.out 0 X (by rw [hX]; rfl))
 have a2 := Aside0.mk (show W2.heap[bl]? = _ from hW2 ▸ blk_far (p := ⟨bc, 0, none⟩) b2.out (fun e => HD.out.2.1.1 e.symm) X)
 have a3 := Aside0.mk (show W2.heap[bf]? = _ from hW2 ▸ blk_far (p := ⟨bc, 0, none⟩) b3.out (fun e => HD.out.2.1.2.1 e.symm) X)
 have a4 := Aside0.mk (show W2.heap[bv]? = _ from hW2 ▸ blk_far (p := ⟨bc, 0, none⟩) b4.out (fun e => HD.out.2.1.2.2.1 e.symm) X)
 have a5 := Aside0.mk (show W2.heap[bp]? = _ from hW2 ▸ blk_far (p := ⟨bc, 0, none⟩) b5.out (fun e => HD.out.2.1.2.2.2.1 e.symm) X)
 have a6 := Aside0.mk (show W2.heap[g]? = _ from hW2 ▸ blk_far_ (p := ⟨bc, 0, none⟩) b6.out (fun e => HD.out.2.1.2.2.2.2 e.symm) X)
 have a7 := Aside0.mk (show W2.heap[w.heap.size]? = _ from hW2 ▸ blk_far (p := ⟨bc, 0, none⟩) b7.out n3' X)
 have a8 := Aside0.mk (show Kd.R k67 67 W2 base _ v ps from hW2 ▸ Kd.R_far (p := ⟨bc, 0, none⟩) b8.out (fun k hk e => hk.2.1 e) X)
 clear hW2 hX b1 b2 b3 b4 b5 b6 b7 b8 HB HZ
 have c4 : W2.cell? ⟨bv, 0, none⟩ = some (.int .i64 lv) := (blk_cell a4.out 0).trans rfl
 have c5 : W2.cell? ⟨bp, 0, none⟩ = some v := (blk_cell a5.out 0).trans rfl
 have c7 : W2.cell? ⟨w.heap.size, 0, none⟩ = some (.int .i64 f0) := (blk_cell a7.out 0).trans rfl
 go_wp2_with (((with_reducible refine gate_builtin (b := .append) (xs := #[.tmp 21, .tmp 26]) rfl ?_); at_builtin; refine Kd.R_append k67 (w0 := w) base rfl (.tmp 21) (.tmp 26) 61 67 (.agg #[(.int .i64 0), (.int .i64 0)]) 16 rfl Try.underlying61 info67 rfl (by decide) (by omega) v ps (⟨lv, f0⟩ : S67) [.int .i64 lv, .int .i64 f0] (fun k => k ≠ g ∧ k ≠ bc ∧ k ≠ bl ∧ k ≠ bf ∧ k ≠ bv ∧ k ≠ bp) (fun _ => False) rfl rfl ?aP (fun _ hk => hk.elim) ?aF ?aO ?aB ?aS ?aL ?_; (case aP => exact k67_mkM _ _ _ (⟨lv, f0⟩ : S67)); (case aF => intro k hk; have h_ := HS.out; have z_ := HZ1.out; omega); (case aO => exact a8.out); (case aB => exact HB1.out); (case aS => have z_ := HZ1.out; have h_ := HBW.out; omega); (case aL => have := HPS.out; omega); intro v1 w1 ho hb hg hat; obtain ⟨A1, k1, eA1⟩ := Kd.R_slice ho; subst eA1; have r1 := Aside0.mk (blk_grown a1.out hg (fun e => (HNO.out bc e.symm).2.1 rfl)); have r2 := Aside0.mk (blk_grown a2.out hg (fun e => (HNO.out bl e.symm).2.2.1 rfl)); have r3 := Aside0.mk (blk_grown a3.out hg (fun e => (HNO.out bf e.symm).2.2.2.1 rfl)); have r4 := Aside0.mk (blk_grown a4.out hg (fun e => (HNO.out bv e.symm).2.2.2.2.1 rfl)); have r5 := Aside0.mk (blk_grown a5.out hg (fun e => (HNO.out bp e.symm).2.2.2.2.2 rfl)); have r6 := Aside0.mk (blk_grown a6.out hg (fun e => (HNO.out g e.symm).1 rfl)); rw [List.length_append, List.length_singleton] at ho; have HO := Aside0.mk ho; have HB2 := Aside0.mk hb; clear ho hb hg hat; have s5 : w1.cell? ⟨bp, 0, none⟩ = some v := (blk_cell r5.out 0).trans rfl; have t5 : w1.frozen? ⟨bp, 0, none⟩ = false := blk_frozen r5.out 0))
 go_ret
 obtain ⟨⟨d1, d2, d3⟩, ⟨d4, d5, d6, d7, d8⟩, ⟨d9, d10, d11, d12⟩, d13, d14, d15⟩ := HD.out
 refine ⟨rfl, ⟨?_, blk_far r2.out (fun e => d9 e.symm) _, blk_far r3.out (fun e => d10 e.symm) _, blk_far r4.out (fun e => d11 e.symm) _, _, blk_put r5.out 0 _ rfl, Kd.R_far (p := ⟨bp, 0, none⟩) HO.out (fun k hk e => hk.2.2.2.2.2 e) _⟩, HB2.out.setCell (p := ⟨bp, 0, none⟩) d2 _, blk_far_ r6.out (fun e => d12 e.symm) _⟩
 exact blk_far r1.out d7 _
-- DEV2
def No (lg lf lv : Int) (c : Nat) (x : S26) : Prop := c = 4 ∨ meetV lg x.f1 lf < lv
def Zc (p : S26 × List Value) : Prop := ∃ (A : Option Addr) (m c : Nat), p.2 = [.int .i64 p.1.f0, .int .i64 p.1.f1, .slice A m c]
def Rg (base : Nat) (W : World) (g n cap : Nat) (rows : List (List Value)) : Prop := (Kd.raw 3).R 26 W base (fun k => k = g) (.slice (some ⟨g, 0, none⟩) n cap) rows
theorem rg_same {base g n cap : Nat} {W W1 : World} {rows : List (List Value)} (h : Rg base W g n cap rows) (e : W1.heap[g]? = W.heap[g]?) : Rg base W1 g n cap rows := Kd.R_move h (fun k hk => by subst hk; exact e)
theorem rg_below {base g n cap : Nat} {W W1 : World} {rows : List (List Value)} (h : Rg base W g n cap rows) (e : Below W.heap.size W W1) : Rg base W1 g n cap rows := Kd.R_below h e
theorem rg_read {base g n cap : Nat} {W : World} {z : List (S26 × List Value)} (h : Rg base W g n cap (z.map Prod.snd)) (hz : z.length = n) (hc : ∀ p ∈ z, Zc p) (j : Nat) (hj : j < z.length) :
    ∃ (A : Option Addr) (m c : Nat), z[j].2 = [.int .i64 z[j].1.f0, .int .i64 z[j].1.f1, .slice A m c] ∧ W.cell? ⟨g, j * 3, none⟩ = some (.int .i64 z[j].1.f0) ∧ W.cell? ⟨g, j * 3 + 1, none⟩ = some (.int .i64 z[j].1.f1) ∧ W.cell? ⟨g, j * 3 + 2, none⟩ = some (.slice A m c) := by
  obtain ⟨A, m, c, e⟩ := hc z[j] (List.getElem_mem hj)
  obtain ⟨cs, _, hM, hcc, _⟩ := Kd.R_elem h [] (j : Int) (by omega) (by omega)
  have hrow : (z.map Prod.snd)[j]? = some [.int .i64 z[j].1.f0, .int .i64 z[j].1.f1, .slice A m c] := by
    rw [List.getElem?_map, List.getElem?_eq_getElem hj, Option.map_some, e]
  have hcs : cs = [.int .i64 z[j].1.f0, .int .i64 z[j].1.f1, .slice A m c] := by
    have h2 := hM.1
    rw [Int.toNat_natCast, List.getD_eq_getElem?_getD, hrow] at h2
    exact h2
  subst hcs
  rw [Int.toNat_natCast] at hcc
  exact ⟨A, m, c, e, hcc 0 _ rfl, hcc 1 _ rfl, hcc 2 _ rfl⟩
theorem rg_block {base g n cap : Nat} {W : World} {rows : List (List Value)} (h : Rg base W g n cap rows) : ∃ o, W.heap[g]? = some o := by
  obtain ⟨cells, e⟩ := Kd.R_typed h g (by simp [Value.ownBlock])
  exact ⟨_, e⟩
set_option maxHeartbeats 4000000 in
theorem ev_idx (base bc bl bf bv bp g n cap c : Nat) (lg lf lv : Int) (ps : List S67) (z : List (S26 × List Value)) (w : World) (hb : base ≤ w.heap.size) (hz : z.length = n) (hzc : ∀ p ∈ z, Zc p) (hR : Rg base w g n cap (z.map Prod.snd)) (hP : Pl base w bc bl bf bv bp g lg lf lv c ps) (hD : Ds base bc bl bf bv bp g) (hc : c ≤ 4) (hps : ps.length ≤ 1000000) (hn : n ≤ 1000000) :
    Calls Try.prog 76 #[.slice (some ⟨g, 0, none⟩) n cap, .func (.func 90) #[] #[.pointer (some ⟨bc, 0, none⟩), .pointer (some ⟨bl, 0, none⟩), .pointer (some ⟨bf, 0, none⟩), .pointer (some ⟨bv, 0, none⟩), .pointer (some ⟨bp, 0, none⟩)]] w fun e w' =>
      (e = .returned (.int .i64 (-1)) ∧ (∀ p ∈ z, No lg lf lv c p.1) ∧ Below w.heap.size w w') ∨
      (∃ (i : Nat) (hi : i < z.length), e = .returned (.int .i64 (i : Int)) ∧ (∀ (m : Nat) (hm : m < z.length), m < i → No lg lf lv c z[m].1) ∧ ¬ No lg lf lv c z[i].1 ∧ Pl base w' bc bl bf bv bp g lg lf lv (c + 1) (ps ++ [⟨lv, z[i].1.f0⟩]) ∧ Below base w w' ∧ w'.heap[g]? = w.heap[g]?) := by
  have huw := Try.underlying26
  have eg : ∀ args w, (callFunc 90 args).run Try.prog w = .ok (.enter 90 args) w := enters_of Try.func90 (by kernel_rfl) rfl
  have HR := Aside0.mk hR
  have HP := Aside0.mk hP
  have HD := Aside0.mk hD
  have HZC := Aside0.mk hzc
  have HBW := Aside0.mk hb
  have HPS := Aside0.mk hps
  have HCC := Aside0.mk hc
  have hl63 : n ≤ 9223372036854775807 := by omega
  clear hR hP hD hzc hb hps hc
  go_enter Try.func76, Try.ntmps76
  go_wp2
  go_loopg [5, 8] n (fun gg _ s8 wr => ∃ kk : Nat, kk ≤ n ∧ n - kk ≤ gg ∧ s8 = .int .i64 kk ∧ Aside0 (Below w.heap.size w wr) ∧ Aside0 (∀ (m : Nat) (hm : m < z.length), m < kk → No lg lf lv c z[m].1))
  case atStart => exact ⟨0, Nat.zero_le _, by omega, rfl, ⟨Below.refl _ w⟩, ⟨fun m _ h => by omega⟩⟩
  case round =>
    obtain ⟨kk, hkk, hgg, rfl, HB, HI⟩ := hrel
    by_cases hlt : kk < n
    · have hltz : (kk : Int) < (n : Int) := by omega
      have hkz : kk < z.length := by omega
      obtain ⟨A_, m_, c_, _, h0, h1, h2⟩ := rg_read (rg_below HR.out HB.out) hz HZC.out kk hkz
      have hel : z[kk]? = some z[kk] := List.getElem?_eq_getElem hkz
      have HE := Aside0.mk hel
      have HX0 := Aside0.mk (show ∀ x : S26, z[kk].1 = x → (No lg lf lv c x ∨ ¬ No lg lf lv c x) from fun x _ => Classical.em _)
      have HNX := Aside0.mk (show z[kk].1 = z[kk].1 from rfl)
      obtain ⟨o, ho⟩ := rg_block (rg_below HR.out HB.out)
      have HO := Aside0.mk ho
      have HKP := Aside0.mk (pl_below HP.out HB.out)
      have hno := ev_no z[kk].1.f0 z[kk].1.f1 (.slice A_ m_ c_) rfl base bc bl bf bv bp g c lg lf lv ps wr HKP.out
      have hyes := ev_yes z[kk].1.f0 z[kk].1.f1 (.slice A_ m_ c_) rfl base bc bl bf bv bp g c lg lf lv ps wr o HKP.out HD.out (Nat.le_trans HBW.out HB.out.size) HO.out
      have HXX := Aside0.mk (Classical.em (No lg lf lv c z[kk].1))
      clear hel ho
      by_cases hid : No lg lf lv c z[kk].1
      · have HC1 := Aside0.mk (hno hid)
        have HID := Aside0.mk hid
        clear hno hyes hid HX0 HNX HXX
        generalize hx : z[kk].1 = x at h0 h1 h2 HC1
        have HX := Aside0.mk hx
        clear hx
        go_wp2_with (go_at_call 90; refine (HC1.out).mono ?_; rintro e w' ⟨rfl, hb'⟩)
        go_roundg (n - (kk + 1))
        case measure => omega
        case rel => exact ⟨kk + 1, by omega, by omega, by go_num, ⟨HB.out.trans (hb'.mono HB.out.size)⟩, ⟨fun m hm h => by
          by_cases e : m = kk
          · subst e; exact HID.out
          · exact HI.out m hm (by omega)⟩⟩
      · have HC1 := Aside0.mk (hyes hid HCC.out HPS.out)
        have HID := Aside0.mk hid
        clear hno hyes hid HX0 HNX HXX
        generalize hx : z[kk].1 = x at h0 h1 h2 HC1
        have HX := Aside0.mk hx
        clear hx
        go_wp2_with (go_at_call 90; refine (HC1.out).mono ?_; rintro e w' ⟨rfl, hp', hb', hg'⟩)
        go_ret
        refine .inr ⟨kk, hkz, rfl, HI.out, HID.out, ?_, (HB.out.mono HBW.out).trans hb', ?_⟩
        · rw [HX.out]; exact hp'
        · have h3 := HO.out
          rw [hg', ← h3]
          exact HB.out.block g (by
            obtain ⟨o2, h4⟩ := rg_block HR.out
            exact blk_lt h4)
    · have hltz : ¬ (kk : Int) < (n : Int) := by omega
      have HALL := Aside0.mk (show ∀ p ∈ z, No lg lf lv c p.1 from fun p hp => by
        obtain ⟨m, hm, rfl⟩ := List.getElem_of_mem hp
        exact HI.out m hm (by omega))
      go_wp2
      go_ret
      exact .inl ⟨rfl, fun a b hab => HALL.out (a, b) hab, HB.out⟩
-- DEV3
theorem setCells_app (b : Nat) : ∀ (x y : List Value) (o : Nat) (w : World), w.setCells b o (x ++ y) = (w.setCells b o x).setCells b (o + x.length) y
  | [], y, o, w => by simp [World.setCells]
  | v :: x, y, o, w => by
    rw [List.cons_append]
    simp only [World.setCells]
    rw [setCells_app b x y (o + 1) _, List.length_cons, show o + 1 + x.length = o + (x.length + 1) from by omega]
/-- Elements from i on are overwritten. -/
theorem raw_fill {base g n cap : Nat} {ok : Nat → Prop} : ∀ (m i : Nat) (zs : List Value) (W : World) (rows : List (List Value)), zs.length = m * 3 → (∀ q ∈ zs, q.oneCell' = true) → i + m ≤ n →
    (Kd.raw 3).R 26 W base ok (.slice (some ⟨g, 0, none⟩) n cap) rows → ∃ rows', (Kd.raw 3).R 26 (W.setCells g (i * 3) zs) base ok (.slice (some ⟨g, 0, none⟩) n cap) rows' ∧ rows'.take i = rows.take i
  | 0, i, zs, W, rows, hl, _, _, h => by
    obtain rfl : zs = [] := List.eq_nil_of_length_eq_zero (by omega)
    exact ⟨rows, h, rfl⟩
  | m + 1, i, zs, W, rows, hl, h1, hi, h => by
    have hn := (Kd.R_reads' h).1
    obtain ⟨cs, hcl, _, hcc, _⟩ := Kd.R_elem h [] (i : Int) (by omega) (by omega)
    have h3 : (zs.take 3).length = 3 := by rw [List.length_take]; omega
    have hl3 : cs.length = 3 := hcl
    have e : cs.take 0 ++ zs.take 3 ++ cs.drop (0 + (zs.take 3).length) = zs.take 3 := by
      rw [List.drop_eq_nil_of_le (by omega), List.append_nil]; rfl
    obtain ⟨hS, _⟩ := Kd.R_seg h (i : Int) (by omega) (by omega) (c := cs) (seg := zs.take 3) (j := 0) (x' := zs.take 3) (okp := fun _ => False) hcl hcc (by show 0 + (zs.take 3).length ≤ 3; omega)
      (by
        refine ⟨e, by rw [e]; exact h3, fun q hq => ?_⟩
        rw [e] at hq
        exact h1 q (List.mem_of_mem_take hq)) (fun _ hk => hk.elim)
    rw [Int.toNat_natCast] at hS
    obtain ⟨rows', hR, ht⟩ := raw_fill m (i + 1) (zs.drop 3) _ _ (by rw [List.length_drop]; omega) (fun q hq => h1 q (List.mem_of_mem_drop hq)) (by omega) hS
    refine ⟨rows', ?_, ?_⟩
    · have e2 := setCells_app g (zs.take 3) (zs.drop 3) (i * 3) W
      rw [List.take_append_drop, h3] at e2
      rw [e2]
      rw [show (i + 1) * 3 = i * 3 + 3 from by omega] at hR
      exact hR
    · have h4 := congrArg (List.take i) ht
      rw [List.take_take, List.take_take, Nat.min_eq_left (by omega), List.take_set_of_le (Nat.le_refl _)] at h4
      exact h4
theorem below_cells {B g : Nat} {w : World} (hg : B ≤ g) : ∀ (vs : List Value) (o : Nat) (W : World), Below B w W → Below B w (W.setCells g o vs)
  | [], _, _, h => h
  | v :: r, o, W, h => below_cells hg r (o + 1) _ (h.setCell (p := ⟨g, o, none⟩) hg v)
/-- n elements' zero cells. -/
def zrow (n : Nat) : List Value := (Builtin.zeroCells #[.int .i64 0, .int .i64 0, .slice none 0 0] n).toList
theorem zrow_len (n : Nat) : (zrow n).length = n * 3 := by simp [zrow, Builtin.zeroCells]
theorem zrow_one (n : Nat) : ∀ q ∈ zrow n, q.oneCell' = true := by
  intro q hq
  simp only [zrow, Builtin.zeroCells, Array.toList_map, List.mem_map] at hq
  obtain ⟨i, _, rfl⟩ := hq
  have h3 : i % 3 < 3 := Nat.mod_lt _ (by omega)
  show (#[Value.int .i64 0, .int .i64 0, .slice none 0 0][i % 3]!).oneCell' = true
  rcases (by omega : i % 3 = 0 ∨ i % 3 = 1 ∨ i % 3 = 2) with e | e | e <;> rw [e] <;> rfl
theorem zero_block (w : World) : (zeroValue 26).run Try.prog w = .ok (.agg #[.int .i64 0, .int .i64 0, .slice none 0 0]) w := by
  obtain ⟨i, hi, he⟩ := Option.map_eq_some_iff.1 info26
  have hz : i.zero = some (.agg #[.int .i64 0, .int .i64 0, .slice none 0 0]) := congrArg Prod.fst he
  simp [zeroValue, typeInfo, hi, hz]
/-- clear of a part of a row of blocks. -/
theorem clear_rows (w : World) (b o n c : Nat) (hn : 0 < n) (hc : ∀ j, j < n * 3 → (w.cell? ⟨b, o + j, none⟩).isSome = true) (hf : ∀ j, j < n * 3 → w.frozen? ⟨b, o + j, none⟩ = false) (ty : TypeId) :
    (Builtin.clear_ #[29] ty #[.slice (some ⟨b, o, none⟩) n c]).run Try.prog w = .ok (.tuple #[]) (w.setCells b o (zrow n)) := by
  have hst := run_storeCells_cells (P := Try.prog) b o (zrow n) 0 w (by rw [zrow_len]; simpa using hc) (by rw [zrow_len]; simpa using hf) (zrow_one n)
  simp only [Nat.add_zero] at hst
  have hzc : (Builtin.zeroCells (Value.cells (.agg #[.int .i64 0, .int .i64 0, .slice none 0 0])) n).toList = zrow n := rfl
  obtain ⟨m, rfl⟩ : ∃ m, n = m + 1 := ⟨n - 1, by omega⟩
  simp [Builtin.clear_, run_underlying Try.underlying29, zero_block, hzc, hst]
theorem new_cell {wr w' : World} {a b c : Value} {t : TypeId} (h : Below (wr.alloc (.cells #[a, b, c] t)).heap.size (wr.alloc (.cells #[a, b, c] t)) w') (k : Nat) {v : Value} (hk : #[a, b, c][k]? = some v) : w'.cell? ⟨wr.heap.size, k, none⟩ = some v := by
  refine (h.cell (p := ⟨wr.heap.size, k, none⟩) ?_).trans ?_
  · show wr.heap.size < (wr.alloc (.cells #[a, b, c] t)).heap.size
    simp
  · exact (World.cell?_alloc_new wr _ t k).trans hk
theorem rg_cells {base g n cap : Nat} {W : World} {rows : List (List Value)} (h : Rg base W g n cap rows) (m : Nat) (hm : m < n * 3) : (W.cell? ⟨g, m, none⟩).isSome = true ∧ W.frozen? ⟨g, m, none⟩ = false := by
  have hn := (Kd.R_reads' h).1
  obtain ⟨cs, hcl, _, hcc, hfr⟩ := Kd.R_elem h [] ((m / 3 : Nat) : Int) (by omega) (by omega)
  rw [Int.toNat_natCast] at hcc hfr
  have hl3 : cs.length = 3 := hcl
  have e : m / 3 * 3 + m % 3 = m := by omega
  have h9 : W.cell? ⟨g, m / 3 * 3 + m % 3, none⟩ = some _ := hcc (m % 3) _ (List.getElem?_eq_getElem (by omega))
  have h10 : W.frozen? ⟨g, m / 3 * 3 + m % 3, none⟩ = false := hfr (m % 3)
  rw [e] at h9 h10
  exact ⟨by rw [h9]; rfl, h10⟩
theorem rg_at {base g n cap : Nat} {W : World} {rows : List (List Value)} (h : Rg base W g n cap rows) (j : Nat) (hj : j < n) (a b c : Value) (hrow : rows[j]? = some [a, b, c]) : W.cell? ⟨g, j * 3, none⟩ = some a ∧ W.cell? ⟨g, j * 3 + 1, none⟩ = some b ∧ W.cell? ⟨g, j * 3 + 2, none⟩ = some c := by
  have hn := (Kd.R_reads' h).1
  obtain ⟨cs, _, hM, hcc, _⟩ := Kd.R_elem h [] (j : Int) (by omega) (by omega)
  have hcs : cs = [a, b, c] := by
    have h2 := hM.1
    rw [Int.toNat_natCast, List.getD_eq_getElem?_getD, hrow] at h2
    exact h2
  subst hcs
  rw [Int.toNat_natCast] at hcc
  exact ⟨hcc 0 _ rfl, hcc 1 _ rfl, hcc 2 _ rfl⟩
theorem rg_set {base g n cap : Nat} {W : World} {rows : List (List Value)} (h : Rg base W g n cap rows) (i : Nat) (hi : i < n) (a b c : Value) (ha : a.oneCell' = true) (hb : b.oneCell' = true) (hc : c.oneCell' = true) : Rg base (W.setCells g (i * 3) [a, b, c]) g n cap (rows.set i [a, b, c]) := by
  have hn := (Kd.R_reads' h).1
  obtain ⟨cs, hcl, _, hcc, _⟩ := Kd.R_elem h [] (i : Int) (by omega) (by omega)
  obtain ⟨hS, _⟩ := Kd.R_seg h (i : Int) (by omega) (by omega) (c := cs) (seg := [a, b, c]) (j := 0) (x' := [a, b, c]) (okp := fun _ => False) hcl hcc (by show 0 + 3 ≤ 3; omega)
    (by
      have hl3 : cs.length = 3 := hcl
      have e : cs.take 0 ++ [a, b, c] ++ cs.drop (0 + [a, b, c].length) = [a, b, c] := by
        rw [List.drop_eq_nil_of_le (by show cs.length ≤ 0 + 3; omega)]; rfl
      refine ⟨e, by rw [e]; rfl, fun q hq => ?_⟩
      rw [e] at hq
      simp only [List.mem_cons, List.not_mem_nil, or_false] at hq
      rcases hq with rfl | rfl | rfl
      · exact ha
      · exact hb
      · exact hc) (fun _ hk => hk.elim)
  rw [Int.toNat_natCast] at hS
  exact hS
/-! the fold over a level -/
theorem ev_inv {α : Type} (pr : α → S26) (lg lf lv : Int) : ∀ (l : List α) (s : Nat × List α × List S67), s.1 ≤ 4 → (l.foldl (evStep pr lg lf lv) s).1 ≤ 4 ∧ (l.foldl (evStep pr lg lf lv) s).2.1.length + (l.foldl (evStep pr lg lf lv) s).2.2.length = s.2.1.length + s.2.2.length + l.length
  | [], s, h => ⟨h, by simp⟩
  | x :: l, s, h => by
    rw [List.foldl_cons]
    have hs : (evStep pr lg lf lv s x).1 ≤ 4 ∧ (evStep pr lg lf lv s x).2.1.length + (evStep pr lg lf lv s x).2.2.length = s.2.1.length + s.2.2.length + 1 := by
      unfold evStep
      by_cases c : s.1 = 4 ∨ meetV lg (pr x).f1 lf < lv
      · rw [if_pos c]
        exact ⟨h, by simp; omega⟩
      · rw [if_neg c]
        exact ⟨by show s.1 + 1 ≤ 4; omega, by simp; omega⟩
    have := ev_inv pr lg lf lv l _ hs.1
    exact ⟨this.1, by rw [this.2, hs.2, List.length_cons]; omega⟩
theorem ev_take {α : Type} (pr : α → S26) (lg lf lv : Int) (z : List α) (j : Nat) (h : j < z.length) (s : Nat × List α × List S67) : (z.take (j + 1)).foldl (evStep pr lg lf lv) s = evStep pr lg lf lv ((z.take j).foldl (evStep pr lg lf lv) s) z[j] := by
  rw [List.take_succ_eq_append_getElem h, List.foldl_append]; rfl
theorem ev_none {α : Type} (pr : α → S26) (lg lf lv : Int) : ∀ (l : List α) (c : Nat) (k : List α) (t : List S67), (∀ p ∈ l, No lg lf lv c (pr p)) → l.foldl (evStep pr lg lf lv) (c, k, t) = (c, k ++ l, t)
  | [], c, k, t, _ => by simp
  | x :: l, c, k, t, h => by
    have hx : c = 4 ∨ meetV lg (pr x).f1 lf < lv := h x (by simp)
    have e : evStep pr lg lf lv (c, k, t) x = (c, k ++ [x], t) := if_pos hx
    rw [List.foldl_cons, e, ev_none pr lg lf lv l c (k ++ [x]) t (fun p hp => h p (by simp [hp]))]
    simp
def evAt (lg lf lv : Int) (z : List (S26 × List Value)) (j : Nat) : Nat × List (S26 × List Value) × List S67 := (z.take j).foldl (evStep Prod.fst lg lf lv) (0, [], [])
theorem evAt_succ (lg lf lv : Int) (z : List (S26 × List Value)) (j : Nat) (h : j < z.length) : evAt lg lf lv z (j + 1) = evStep Prod.fst lg lf lv (evAt lg lf lv z j) z[j] := ev_take Prod.fst lg lf lv z j h _
theorem evStep_no {α : Type} {pr : α → S26} {lg lf lv : Int} {s : Nat × List α × List S67} {x : α} (h : No lg lf lv s.1 (pr x)) : evStep pr lg lf lv s x = (s.1, s.2.1 ++ [x], s.2.2) := if_pos h
theorem evStep_yes {α : Type} {pr : α → S26} {lg lf lv : Int} {s : Nat × List α × List S67} {x : α} (h : ¬ No lg lf lv s.1 (pr x)) : evStep pr lg lf lv s x = (s.1 + 1, s.2.1, s.2.2 ++ [⟨lv, (pr x).f0⟩]) := if_neg h
theorem evAt_end (lg lf lv : Int) (z : List (S26 × List Value)) (j : Nat) (h : z.length ≤ j) : evAt lg lf lv z j = evLevel Prod.fst lg lf lv z := by
  unfold evAt evLevel
  rw [List.take_of_length_le h]
theorem evAt_inv (lg lf lv : Int) (z : List (S26 × List Value)) (j : Nat) (h : j ≤ z.length) : (evAt lg lf lv z j).1 ≤ 4 ∧ (evAt lg lf lv z j).2.1.length + (evAt lg lf lv z j).2.2.length = j := by
  have := ev_inv (α := S26 × List Value) Prod.fst lg lf lv (z.take j) (0, [], []) (by show 0 ≤ 4; omega)
  refine ⟨this.1, this.2.trans ?_⟩
  rw [List.length_take]
  show 0 + 0 + _ = _
  omega
/-- A row on its way through DeleteFunc: ahead of i what is kept of the first j, from j on what was there. -/
def De (base g n cap : Nat) (lg lf lv : Int) (z : List (S26 × List Value)) (wr : World) (i j : Nat) : Prop :=
  i = (evAt lg lf lv z j).2.1.length ∧ ∃ rows : List (List Value), Rg base wr g n cap rows ∧ rows.take i = (evAt lg lf lv z j).2.1.map Prod.snd ∧ rows.drop j = (z.drop j).map Prod.snd
theorem de_same {base g n cap i j : Nat} {lg lf lv : Int} {z : List (S26 × List Value)} {W W1 : World} (h : De base g n cap lg lf lv z W i j) (e : W1.heap[g]? = W.heap[g]?) : De base g n cap lg lf lv z W1 i j := by
  obtain ⟨h1, rows, h2, h3, h4⟩ := h
  exact ⟨h1, rows, rg_same h2 e, h3, h4⟩
theorem de_below {base g n cap i j : Nat} {lg lf lv : Int} {z : List (S26 × List Value)} {W W1 : World} (h : De base g n cap lg lf lv z W i j) (e : Below W.heap.size W W1) : De base g n cap lg lf lv z W1 i j := by
  obtain ⟨h1, rows, h2, h3, h4⟩ := h
  exact ⟨h1, rows, rg_below h2 e, h3, h4⟩
theorem de_read {base g n cap i j : Nat} {lg lf lv : Int} {z : List (S26 × List Value)} {W : World} (h : De base g n cap lg lf lv z W i j) (hz : z.length = n) (hc : ∀ p ∈ z, Zc p) (hj : j < z.length) :
    ∃ (A : Option Addr) (m c : Nat), z[j].2 = [.int .i64 z[j].1.f0, .int .i64 z[j].1.f1, .slice A m c] ∧ W.cell? ⟨g, j * 3, none⟩ = some (.int .i64 z[j].1.f0) ∧ W.cell? ⟨g, j * 3 + 1, none⟩ = some (.int .i64 z[j].1.f1) ∧ W.cell? ⟨g, j * 3 + 2, none⟩ = some (.slice A m c) := by
  obtain ⟨h1, rows, h2, h3, h4⟩ := h
  obtain ⟨A, m, c, e⟩ := hc z[j] (List.getElem_mem hj)
  refine ⟨A, m, c, e, rg_at h2 j (by omega) _ _ _ ?_⟩
  have h9 : (rows.drop j)[0]? = some z[j].2 := by rw [h4, List.drop_eq_getElem_cons hj]; rfl
  rw [List.getElem?_drop, Nat.add_zero] at h9
  rw [h9, e]
theorem de_skip {base g n cap i j : Nat} {lg lf lv : Int} {z : List (S26 × List Value)} {W : World} (h : De base g n cap lg lf lv z W i j) (hj : j < z.length) (hn : ¬ No lg lf lv (evAt lg lf lv z j).1 z[j].1) : De base g n cap lg lf lv z W i (j + 1) := by
  obtain ⟨h1, rows, h2, h3, h4⟩ := h
  have hk : (evAt lg lf lv z (j + 1)).2.1 = (evAt lg lf lv z j).2.1 := by
    rw [evAt_succ lg lf lv z j hj, evStep_yes hn]
  refine ⟨by rw [hk]; exact h1, rows, h2, by rw [hk]; exact h3, ?_⟩
  rw [← List.drop_drop, h4, ← List.map_drop, List.drop_drop]
theorem de_keep {base g n cap i j : Nat} {lg lf lv : Int} {z : List (S26 × List Value)} {W : World} {u : Value} (h : De base g n cap lg lf lv z W i j) (hz : z.length = n) (hij : i ≤ j) (hj : j < z.length) (hn : No lg lf lv (evAt lg lf lv z j).1 z[j].1) (hu : u.oneCell' = true) (e : z[j].2 = [.int .i64 z[j].1.f0, .int .i64 z[j].1.f1, u]) :
    De base g n cap lg lf lv z (W.setCells g (i * 3) [.int .i64 z[j].1.f0, .int .i64 z[j].1.f1, u]) (i + 1) (j + 1) := by
  obtain ⟨h1, rows, h2, h3, h4⟩ := h
  have hl := (Kd.R_reads' h2).1
  have hk : (evAt lg lf lv z (j + 1)).2.1 = (evAt lg lf lv z j).2.1 ++ [z[j]] := by
    rw [evAt_succ lg lf lv z j hj, evStep_no hn]
  refine ⟨by rw [hk, List.length_append, ← h1]; rfl, _, rg_set h2 i (by omega) _ _ _ rfl rfl hu, ?_, ?_⟩
  · rw [hk, List.map_append, ← h3, List.take_add_one, List.take_set_of_le (Nat.le_refl _), List.getElem?_set_self (by omega)]
    rw [show ([z[j]].map Prod.snd) = [z[j].2] from rfl, e]
    rfl
  · rw [List.drop_set_of_lt (by omega), ← List.drop_drop, h4, ← List.map_drop, List.drop_drop]
theorem de_end {base g n cap i : Nat} {lg lf lv : Int} {z : List (S26 × List Value)} {W : World} (h : De base g n cap lg lf lv z W i n) (hz : z.length = n) (hi : i ≤ n) (zs : List Value) (hl : zs.length = (n - i) * 3) (h1 : ∀ q ∈ zs, q.oneCell' = true) :
    Rg base (W.setCells g (i * 3) zs) g i cap ((evLevel Prod.fst lg lf lv z).2.1.map Prod.snd) := by
  obtain ⟨a1, rows, a2, a3, a4⟩ := h
  obtain ⟨rows', hR, ht⟩ := raw_fill (n - i) i zs W rows hl h1 (by omega) a2
  have hn := (Kd.R_reads' hR).1
  have hT := Kd.R_take hR (m := i) (by omega)
  rw [evAt_end lg lf lv z n (by omega)] at a3
  rw [ht, a3] at hT
  exact hT
-- DEV4
set_option maxHeartbeats 8000000 in
set_option maxRecDepth 100000 in
theorem ev_del (base bc bl bf bv bp g n cap : Nat) (lg lf lv : Int) (ps : List S67) (z : List (S26 × List Value)) (w : World) (hb : base ≤ w.heap.size) (hz : z.length = n) (hzc : ∀ p ∈ z, Zc p) (hR : Rg base w g n cap (z.map Prod.snd)) (hP : Pl base w bc bl bf bv bp g lg lf lv 0 ps) (hD : Ds base bc bl bf bv bp g) (hps : ps.length ≤ 500000) (hn : n ≤ 100000) :
    Calls Try.prog 66 #[.slice (some ⟨g, 0, none⟩) n cap, .func (.func 90) #[] #[.pointer (some ⟨bc, 0, none⟩), .pointer (some ⟨bl, 0, none⟩), .pointer (some ⟨bf, 0, none⟩), .pointer (some ⟨bv, 0, none⟩), .pointer (some ⟨bp, 0, none⟩)]] w fun e w' =>
      e = .returned (.slice (some ⟨g, 0, none⟩) (evLevel Prod.fst lg lf lv z).2.1.length cap) ∧ Rg base w' g (evLevel Prod.fst lg lf lv z).2.1.length cap ((evLevel Prod.fst lg lf lv z).2.1.map Prod.snd) ∧ Pl base w' bc bl bf bv bp g lg lf lv (evLevel Prod.fst lg lf lv z).1 (ps ++ (evLevel Prod.fst lg lf lv z).2.2) ∧ Below base w w' := by
  have hcap : n ≤ cap := (Kd.R_reads' hR).2.1
  have HF := Aside0.mk (ev_idx base bc bl bf bv bp g n cap 0 lg lf lv ps z w hb hz hzc hR hP hD (by omega) (by omega) (by omega))
  have HR := Aside0.mk hR
  have HP := Aside0.mk hP
  have HD := Aside0.mk hD
  have HZC := Aside0.mk hzc
  have HBW := Aside0.mk hb
  have HPS := Aside0.mk hps
  have hn63 : n ≤ 9223372036854775807 := by omega
  clear hR hP hD hzc hb hps
  have huB := Try.underlying26
  have huS := Try.underlying29
  have eg : ∀ args w, (callFunc 90 args).run Try.prog w = .ok (.enter 90 args) w := enters_of Try.func90 (by kernel_rfl) rfl
  by_cases hall : ∀ p ∈ z, No lg lf lv 0 p.1
  · have hS : evLevel Prod.fst lg lf lv z = (0, z, []) := by
      have := ev_none (α := S26 × List Value) Prod.fst lg lf lv z 0 [] [] hall
      simpa [evLevel] using this
    have HALL := Aside0.mk hall
    have HSS := Aside0.mk hS
    clear hall hS
    have HF2 := Aside0.mk (HF.out.mono (R' := fun e w' => e = .returned (.int .i64 (-1)) ∧ Below w.heap.size w w') (fun e w' h => by
      rcases h with h | ⟨i, hi, _, _, h4, _⟩
      · exact ⟨h.1, h.2.2⟩
      · exact absurd (HALL.out _ (List.getElem_mem hi)) h4))
    clear HF
    go_enter Try.func66, Try.ntmps66
    go_wp2_with (go_at_call 76; refine (HF2.out).mono ?_; rintro e w1 ⟨rfl, hb⟩)
    go_ret
    rw [HSS.out]
    refine ⟨?_, ?_, ?_, hb.mono HBW.out⟩
    · show _ = Ending.returned (.slice (some ⟨g, 0, none⟩) z.length cap)
      rw [hz]
      rfl
    · show Rg base w1 g z.length cap (z.map Prod.snd)
      rw [hz]
      exact rg_below HR.out hb
    · show Pl base w1 bc bl bf bv bp g lg lf lv 0 (ps ++ [])
      rw [List.append_nil]
      exact pl_below HP.out hb
  · have HALL := Aside0.mk hall
    clear hall
    have HF2 := Aside0.mk (HF.out.mono (R' := fun e w' => ∃ (i : Nat) (hi : i < z.length), e = .returned (.int .i64 (i : Int)) ∧ Pl base w' bc bl bf bv bp g lg lf lv (evAt lg lf lv z (i + 1)).1 (ps ++ (evAt lg lf lv z (i + 1)).2.2) ∧ De base g n cap lg lf lv z w' i (i + 1) ∧ Below base w w') (fun e w' h => by
      rcases h with h | ⟨i, hi, h1, h2, h4, h5, h6, h7⟩
      · exact absurd h.2.1 HALL.out
      · have e0 : evAt lg lf lv z i = (0, z.take i, []) := by
          have := ev_none (α := S26 × List Value) Prod.fst lg lf lv (z.take i) 0 [] [] (fun p hp => by
            obtain ⟨m, hm, rfl⟩ := List.getElem_of_mem hp
            rw [List.length_take] at hm
            rw [List.getElem_take]
            exact h2 m (by omega) (by omega))
          simpa [evAt] using this
        have e1 := evAt_succ lg lf lv z i hi
        rw [e0, evStep_yes (s := (0, z.take i, [])) h4] at e1
        refine ⟨i, hi, h1, ?_, ⟨?_, z.map Prod.snd, rg_same HR.out h7, ?_, ?_⟩, h6⟩
        · rw [e1]
          exact h5
        · rw [e1]
          show i = (z.take i).length
          rw [List.length_take]; omega
        · rw [e1]
          exact (List.map_take).symm
        · exact (List.map_drop).symm))
    clear HF
    go_enter Try.func66, Try.ntmps66
    go_wp2_with (go_at_call 76; refine (HF2.out).mono ?_; rintro e w1 ⟨i0, hi0, rfl, hp, hd, hb⟩; have HP0 := Aside0.mk hp; have HD0 := Aside0.mk hd; have HB0 := Aside0.mk hb; clear hp hd hb)
    go_loopg [5, 6] n (fun gg s5 s6 wr => ∃ (i j : Nat), i < j ∧ j ≤ n ∧ n - j ≤ gg ∧ s5 = .int .i64 i ∧ s6 = .int .i64 j ∧ Aside0 (Below base w wr) ∧ Aside0 (De base g n cap lg lf lv z wr i j) ∧ Aside0 (Pl base wr bc bl bf bv bp g lg lf lv (evAt lg lf lv z j).1 (ps ++ (evAt lg lf lv z j).2.2)))
    case atStart => exact ⟨i0, i0 + 1, by omega, by omega, by omega, rfl, by go_num, HB0, HD0, HP0⟩
    case round =>
      clear HD0 HB0 HP0 HF2
      obtain ⟨i, j, hij, hjn, hgg, rfl, rfl, HB, HDE, HPL⟩ := hrel
      by_cases hlt : j < n
      · have hltz : (j : Int) < (n : Int) := by omega
        have hjt : ((j : Int)).toNat = j := Int.toNat_natCast j
        have hit : ((i : Int)).toNat = i := Int.toNat_natCast i
        have hiz : (i : Int) < (n : Int) := by omega
        have hjz : j < z.length := by omega
        obtain ⟨A_, m_, c_, hu, h0, h1, h2⟩ := de_read HDE.out hz HZC.out hjz
        have hinv := evAt_inv lg lf lv z j (by omega)
        have HU := Aside0.mk hu
        have HBS := Aside0.mk (Nat.le_trans HBW.out HB.out.size)
        have HW := Aside0.mk (below_alloc (Below.refl wr.heap.size wr) (.cells #[.int .i64 z[j].1.f0, .int .i64 z[j].1.f1, .slice A_ m_ c_] 26))
        obtain ⟨rows0, hrg0, _, _⟩ := HDE.out.2
        obtain ⟨o, ho⟩ := rg_block hrg0
        clear hrg0
        have HOG := Aside0.mk ho
        have HPW := Aside0.mk (pl_below HPL.out HW.out)
        have HOW := Aside0.mk (blk_alloc ho (.cells #[.int .i64 z[j].1.f0, .int .i64 z[j].1.f1, .slice A_ m_ c_] 26))
        have hno := ev_no z[j].1.f0 z[j].1.f1 (.slice A_ m_ c_) rfl base bc bl bf bv bp g (evAt lg lf lv z j).1 lg lf lv _ _ HPW.out
        have hyes := ev_yes z[j].1.f0 z[j].1.f1 (.slice A_ m_ c_) rfl base bc bl bf bv bp g (evAt lg lf lv z j).1 lg lf lv _ _ o HPW.out HD.out (Nat.le_trans HBS.out HW.out.size) HOW.out
        clear hu ho
        by_cases hx : No lg lf lv (evAt lg lf lv z j).1 z[j].1
        · have HC1 := Aside0.mk (hno hx)
          have HX := Aside0.mk hx
          have HK := Aside0.mk (fun (w' : World) (h : De base g n cap lg lf lv z w' i j) => de_keep h hz (by omega) hjz hx rfl HU.out)
          have HN := Aside0.mk (evAt_succ lg lf lv z j hjz)
          clear hno hyes hx hinv
          generalize hxx : z[j].1 = x at h0 h1 h2 HC1 HW HK
          have HXX := Aside0.mk hxx
          clear hxx HOW HPW
          go_wp2_with (go_at_call 90; refine (HC1.out).mono ?_; rintro e w' ⟨rfl, hb'⟩; have HB3 := Aside0.mk (HW.out.trans (hb'.mono HW.out.size)); have HDM := Aside0.mk (de_below HDE.out HB3.out); have HPM := Aside0.mk (pl_below HPL.out HB3.out); have e0 : w'.cell? ⟨wr.heap.size, 0, none⟩ = some (.int .i64 x.f0) := new_cell hb' 0 rfl; have e1 : w'.cell? ⟨wr.heap.size, 1, none⟩ = some (.int .i64 x.f1) := new_cell hb' 1 rfl; have e2 : w'.cell? ⟨wr.heap.size, 2, none⟩ = some (.slice A_ m_ c_) := new_cell hb' 2 rfl; obtain ⟨rows, hrg, _⟩ := HDM.out.2; have HRG := Aside0.mk hrg; clear hrg; obtain ⟨u0, s0⟩ := Option.isSome_iff_exists.1 (rg_cells HRG.out (i * 3) (by omega)).1; obtain ⟨u1, s1⟩ := Option.isSome_iff_exists.1 (rg_cells HRG.out (i * 3 + 1) (by omega)).1; obtain ⟨u2, s2⟩ := Option.isSome_iff_exists.1 (rg_cells HRG.out (i * 3 + 2) (by omega)).1; have t0 := (rg_cells HRG.out (i * 3) (by omega)).2; have t1 := (rg_cells HRG.out (i * 3 + 1) (by omega)).2; have t2 := (rg_cells HRG.out (i * 3 + 2) (by omega)).2)
          go_roundg (n - (j + 1))
          case measure => omega
          case rel => exact ⟨i + 1, j + 1, by omega, by omega, by omega, by go_num, by go_num, ⟨below_cells HD.out.1.2.2 [.int .i64 x.f0, .int .i64 x.f1, .slice A_ m_ c_] (i * 3) _ (HB.out.trans (HB3.out.mono HBS.out))⟩, ⟨HK.out _ HDM.out⟩, ⟨by
            rw [HN.out, evStep_no HX.out]
            exact pl_cells HD.out [.int .i64 x.f0, .int .i64 x.f1, .slice A_ m_ c_] (i * 3) _ HPM.out⟩⟩
        · have HC1 := Aside0.mk (hyes hx hinv.1 (by have := HPS.out; rw [List.length_append]; omega))
          have HX := Aside0.mk hx
          have HN := Aside0.mk (evAt_succ lg lf lv z j hjz)
          clear hno hyes hx hinv
          generalize hxx : z[j].1 = x at h0 h1 h2 HC1 HW
          have HXX := Aside0.mk hxx
          clear hxx HOW HPW
          go_wp2_with (go_at_call 90; refine (HC1.out).mono ?_; rintro e w' ⟨rfl, hp', hb', hg'⟩; have HP3 := Aside0.mk hp'; have HB3 := Aside0.mk ((HW.out.mono HBS.out).trans hb'); have HG3 := Aside0.mk (hg'.trans HOG.out.symm); clear hp' hb' hg')
          go_roundg (n - (j + 1))
          case measure => omega
          case rel => exact ⟨i, j + 1, by omega, by omega, by omega, rfl, by go_num, ⟨HB.out.trans HB3.out⟩, ⟨de_skip (de_same HDE.out HG3.out) hjz HX.out⟩, ⟨by
            rw [HN.out, evStep_yes HX.out, HXX.out, ← List.append_assoc]
            exact HP3.out⟩⟩
      · have hltz : ¬ (j : Int) < (n : Int) := by omega
        obtain rfl : j = n := by omega
        obtain ⟨rows, hrg, _⟩ := HDE.out.2
        have hcl := clear_rows wr g (i * 3) (j - i) (cap - i) (by omega) (fun q hq => (rg_cells hrg (i * 3 + q) (by omega)).1) (fun q hq => (rg_cells hrg (i * 3 + q) (by omega)).2)
        have HI := Aside0.mk HDE.out.1
        have HS := Aside0.mk (de_end HDE.out hz (by omega) (zrow (j - i)) (zrow_len _) (zrow_one _))
        have HPE := Aside0.mk (pl_cells HD.out (zrow (j - i)) (i * 3) _ HPL.out)
        have HAE := Aside0.mk (evAt_end lg lf lv z j (by omega))
        have HBE := Aside0.mk (below_cells HD.out.1.2.2 (zrow (j - i)) (i * 3) _ HB.out)
        clear hrg
        go_wp2
        go_ret
        have hi := HI.out
        rw [HAE.out] at hi
        rw [← hi]
        refine ⟨rfl, HS.out, ?_, HBE.out⟩
        have := HPE.out
        rw [HAE.out] at this
        exact this
-- DEV5
set_option maxHeartbeats 2000000 in
theorem ev_clone (A0 : Option Addr) (n c0 : Nat) (news : List (List Value)) (w : World) (hN : ReadsRow (fun x cs => cs = x ∧ cs.length = 3 ∧ ∀ u ∈ cs, u.oneCell' = true) 3 w A0 n news) (hc0 : n ≤ c0) (c1 : n ≤ 1000) :
    Calls Try.prog 78 #[.slice A0 n c0] w fun e w' => ∃ v0_ : Value, e = .returned (v0_) ∧ (Kd.raw 3).R 26 w' w.heap.size (fun _ => True) v0_ news ∧ Below w.heap.size w w' := by
 have LM := Aside0.mk c1
 clear c1
 cases A0 with
 | none =>
  have e0 : news = [] := by
   rcases Nat.eq_zero_or_pos n with hz | hz
   ·
    exact List.eq_nil_of_length_eq_zero (hN.1.trans hz)
   obtain ⟨ad, e, _⟩ := hN.2.2 hz; cases e
  have e1 : n = 0 := by have := hN.1; rw [e0] at this; exact this.symm
  subst e0 e1
  clear hN hc0
  have q40 : ∀ (w : World) (a : Option Addr) (n c n' c' : Nat), (binOp .eql 29 (.slice a n c) (.slice none n' c')).run Try.prog w = .ok (.bool a.isNone) w := fun w a n c n' c' => Lib.run_eql_slice_nil w _ _ a n c n' c' Try.underlying29
  go_enter Try.func78, Try.ntmps78
  go_wp2
  go_ret
  exact ⟨_, rfl, Kd.R_nil _ _ _ _ _, Below.refl _ _⟩
 | some ad =>
  have HN := Aside0.mk hN
  have HNL := Aside0.mk hN.1
  clear hN
  have HB := Aside0.mk (Below.refl w.heap.size w)
  have q40 : ∀ (w : World) (a : Option Addr) (n c n' c' : Nat), (binOp .eql 29 (.slice a n c) (.slice none n' c')).run Try.prog w = .ok (.bool a.isNone) w := fun w a n c n' c' => Lib.run_eql_slice_nil w _ _ a n c n' c' Try.underlying29
  go_enter Try.func78, Try.ntmps78
  go_wp2_with (first | ((with_reducible refine gate_dst (N := 5) rfl ?_); refine Kd.R_lit (Kd.raw 3) _ 26 ?hg (N := 5) ?hd (xs := ([] : List (List Value))) (inner := []) (ok := fun _ => True) (okp := fun _ => True) ?hr ?hp (fun _ hk => hk) trivial (Below.refl _ _) (Nat.le_refl _) (by simp) ?_; (case hd => rfl); (case hg => rfl); (case hr => (go_simp; done)); (case hp => exact (Reps.none _ _)); intro v5 w5 ho hb hg_ hnew_; clear hg_ hnew_; have n0_ := Aside0.mk (Kd.R_lower ho (below_size HB.out)); have n1_ := Aside0.mk (below_step HB.out hb); clear HB; have HO5 := n0_; have HB := n1_; clear n0_ n1_ hb ho) | ((with_reducible refine gate_builtin (b := .append) (xs := #[.tmp 5, .tmp 6]) rfl ?_); at_builtin; refine Kd.R_append_rows (Kd.raw 3) (Rr := fun x cs => cs = x ∧ cs.length = 3 ∧ ∀ u ∈ cs, u.oneCell' = true) (w0 := w) w.heap.size rfl (.tmp 5) (.tmp 6) 29 26 (.agg #[(.int .i64 0), (.int .i64 0), (.slice none 0 0)]) 40 rfl Try.underlying29 info26 rfl (by decide) (by omega) v5 ([] : List (List Value)) news _ _ _ (fun _ => True) (fun _ => False) rfl rfl ?aO ?aR (fun _ _ h => h) (fun _ h => h.elim) ?aF ?aB ?aS ?aL ?_; (case aR => exact ReadsRow.imp_ HN.out HB.out (fun _ _ h_ => h_)); (case aB => exact HB.out); (case aF => exact (fun _ _ => trivial)); (case aO => exact HO5.out); (case aS => exact (below_size HB.out)); (case aL => have h_ := LM.out; have h2_ := HNL.out; simp; omega); intro v7 w7 ho hb hg hat; rw [List.nil_append] at ho; have n1_ := Aside0.mk hb; have n2_ := Aside0.mk ho; clear HB HO5; have HB := n1_; have HO7 := n2_; clear n1_ n2_ ho hb hg hat))
  go_ret
  exact ⟨_, rfl, HO7.out, HB.out⟩
theorem ev_idx0 (A : Option Addr) (cap : Nat) (fs : Array Value) (w : World) :
    Calls Try.prog 76 #[.slice A 0 cap, .func (.func 90) #[] fs] w fun e w' => e = .returned (.int .i64 (-1)) ∧ Below w.heap.size w w' := by
 go_enter Try.func76, Try.ntmps76
 go_wp2
 go_loopg [5, 8] 0 (fun gg _ s8 wr => s8 = .int .i64 0 ∧ Aside0 (Below w.heap.size w wr))
 case atStart => exact ⟨rfl, ⟨Below.refl _ w⟩⟩
 case round =>
  obtain ⟨rfl, HB⟩ := hrel
  go_wp2
  go_ret
  exact ⟨rfl, HB.out⟩
theorem ev_del0 (A : Option Addr) (cap : Nat) (fs : Array Value) (w : World) :
    Calls Try.prog 66 #[.slice A 0 cap, .func (.func 90) #[] fs] w fun e w' => e = .returned (.slice A 0 cap) ∧ Below w.heap.size w w' := by
 have HF := Aside0.mk (ev_idx0 A cap fs w)
 go_enter Try.func66, Try.ntmps66
 go_wp2_with (go_at_call 76; refine (HF.out).mono ?_; rintro e w1 ⟨rfl, hb⟩)
 go_ret
 exact ⟨rfl, hb⟩
/-- What stands at a level's head. -/
def Hd (base : Nat) (W : World) (bl bf bv bp : Nat) (lg lf lv : Int) (vr : Value) (rows : List (List Value)) (ps : List S67) : Prop :=
  (W.heap[bl]? = some (.cells #[.int .i64 lg] 3 (0, 0)) ∧ W.heap[bf]? = some (.cells #[.int .i64 lf] 3 (0, 0)) ∧ W.heap[bv]? = some (.cells #[.int .i64 lv] 3 (0, 0))) ∧
  (∃ v, W.heap[bp]? = some (.cells #[v] 61 (0, 0)) ∧ Kd.R k67 67 W base (fun k => (k ≠ bl ∧ k ≠ bf ∧ k ≠ bp ∧ some k ≠ vr.ownBlock) ∧ k ≠ bv) v ps) ∧
  (Kd.raw 3).R 26 W base (fun k => (k ≠ bl ∧ k ≠ bf ∧ k ≠ bp) ∧ k ≠ bv) vr rows ∧
  (bp ≠ bl ∧ bp ≠ bf ∧ base ≤ bp) ∧ bv ≠ bl ∧ bv ≠ bf ∧ bv ≠ bp
theorem hd_below {base bl bf bv bp : Nat} {W w1 : World} {lg lf lv : Int} {vr : Value} {rows : List (List Value)} {ps : List S67} (h : Hd base W bl bf bv bp lg lf lv vr rows ps) (hb : Below W.heap.size W w1) : Hd base w1 bl bf bv bp lg lf lv vr rows ps := by
  obtain ⟨⟨h1, h2, h3⟩, ⟨v, h4, h5⟩, h6, h7⟩ := h
  exact ⟨⟨blk_below h1 hb, blk_below h2 hb, blk_below h3 hb⟩, ⟨v, blk_below h4 hb, Kd.R_below h5 hb⟩, Kd.R_below h6 hb, h7⟩
/-- A new box for the level. -/
theorem hd_box {base bl bf bv bp : Nat} {W : World} {lg lf lv lv' : Int} {vr : Value} {rows : List (List Value)} {ps : List S67} (h : Hd base W bl bf bv bp lg lf lv vr rows ps) :
    Hd base (W.alloc (.cells #[.int .i64 lv'] 3)) bl bf W.heap.size bp lg lf lv' vr rows ps := by
  obtain ⟨⟨h1, h2, h3⟩, ⟨v, h4, h5⟩, h6, h7, h8⟩ := h
  have l1 := blk_lt h1
  have l2 := blk_lt h2
  have l4 := blk_lt h4
  have g5 := Kd.R_bound h5
  have g6 := Kd.R_bound h6
  refine ⟨⟨blk_alloc h1 _, blk_alloc h2 _, blk_new W _⟩, ⟨v, blk_alloc h4 _, ?_⟩, ?_, h7, by omega, by omega, by omega⟩
  · exact Kd.R_alloc (Kd.R_mono g5 (fun k hk => ⟨hk.1.1, by have := hk.2.2.1; omega⟩)) _
  · exact Kd.R_alloc (Kd.R_mono g6 (fun k hk => ⟨hk.1.1, by have := hk.2.2.1; omega⟩)) _
theorem hd_set {base bl bf bv bp : Nat} {W : World} {lg lf lv lv' : Int} {vr : Value} {rows : List (List Value)} {ps : List S67} (h : Hd base W bl bf bv bp lg lf lv vr rows ps) :
    Hd base (W.setCell ⟨bv, 0, none⟩ (.int .i64 lv')) bl bf bv bp lg lf lv' vr rows ps := by
  obtain ⟨⟨h1, h2, h3⟩, ⟨v, h4, h5⟩, h6, h7, e1, e2, e3⟩ := h
  refine ⟨⟨blk_far (p := ⟨bv, 0, none⟩) h1 (fun e => e1 e.symm) _, blk_far (p := ⟨bv, 0, none⟩) h2 (fun e => e2 e.symm) _, blk_put h3 0 _ rfl⟩, ⟨v, blk_far (p := ⟨bv, 0, none⟩) h4 (fun e => e3 e.symm) _, ?_⟩, ?_, h7, e1, e2, e3⟩
  · exact Kd.R_far (p := ⟨bv, 0, none⟩) h5 (fun k hk e => hk.2 e) _
  · exact Kd.R_far (p := ⟨bv, 0, none⟩) h6 (fun k hk e => hk.2 e) _
/-- The count's box is new. -/
theorem hd_pl {base bl bf bv bp g n cap : Nat} {W : World} {lg lf lv : Int} {rows : List (List Value)} {ps : List S67} (h : Hd base W bl bf bv bp lg lf lv (.slice (some ⟨g, 0, none⟩) n cap) rows ps) (hb : base ≤ W.heap.size) :
    Pl base (W.alloc (.cells #[.int .i64 0] 3)) W.heap.size bl bf bv bp g lg lf lv 0 ps ∧ Rg base (W.alloc (.cells #[.int .i64 0] 3)) g n cap rows ∧ Ds base W.heap.size bl bf bv bp g := by
  obtain ⟨⟨h1, h2, h3⟩, ⟨v, h4, h5⟩, h6, ⟨d1, d2, d3⟩, e1, e2, e3⟩ := h
  have l1 := blk_lt h1
  have l2 := blk_lt h2
  have l3 := blk_lt h3
  have l4 := blk_lt h4
  have hgo : (Value.slice (some ⟨g, 0, none⟩) n cap).ownBlock = some g := by simp [Value.ownBlock]
  have lg_ := Kd.R_lt h6 g hgo
  have bg := Kd.R_base h6 g hgo
  have og := h6.1 g hgo
  have g5 := Kd.R_bound h5
  have g6 := Kd.R_bound (Kd.raw_tight h6)
  refine ⟨⟨blk_new W _, blk_alloc h1 _, blk_alloc h2 _, blk_alloc h3 _, v, blk_alloc h4 _, ?_⟩, ?_, ⟨⟨hb, d3, bg⟩, ⟨by omega, by omega, by omega, by omega, by omega⟩, ⟨d1, d2, fun e => e3 e.symm, fun e => og.1.2.2 e.symm⟩, og.1.1, og.1.2.1, og.2⟩⟩
  · exact Kd.R_alloc (Kd.R_mono g5 (fun k hk => ⟨fun e => hk.1.1.2.2.2 (by rw [hgo, e]), by have := hk.2.2.1; omega, hk.1.1.1, hk.1.1.2.1, hk.1.2, hk.1.1.2.2.1⟩)) _
  · exact Kd.R_alloc (Kd.R_mono (ok' := fun k => k = g) g6 (fun k hk => by have := hk.1; rw [hgo] at this; injection this)) _
theorem hd_of {base bc bl bf bv bp g n cap c : Nat} {W : World} {lg lf lv : Int} {rows : List (List Value)} {ps : List S67} (hP : Pl base W bc bl bf bv bp g lg lf lv c ps) (hR : Rg base W g n cap rows) (hD : Ds base bc bl bf bv bp g) (e1 : bv ≠ bl) (e2 : bv ≠ bf) : Hd base W bl bf bv bp lg lf lv (.slice (some ⟨g, 0, none⟩) n cap) rows ps := by
  obtain ⟨h1, h2, h3, h4, v, h5, h6⟩ := hP
  obtain ⟨⟨d1, d2, d3⟩, ⟨d4, d5, d6, d7, d8⟩, ⟨d9, d10, d11, d12⟩, d13, d14, d15⟩ := hD
  have hgo : (Value.slice (some ⟨g, 0, none⟩) n cap).ownBlock = some g := by simp [Value.ownBlock]
  exact ⟨⟨h2, h3, h4⟩, ⟨v, h5, Kd.R_mono h6 (fun k hk => ⟨⟨hk.2.2.1, hk.2.2.2.1, hk.2.2.2.2.2, fun e => hk.1 (by rw [hgo] at e; injection e)⟩, hk.2.2.2.2.1⟩)⟩, Kd.R_mono hR (fun k hk => by subst hk; exact ⟨⟨d13, d14, fun e => d12 e.symm⟩, d15⟩), ⟨d9, d10, d2⟩, e1, e2, fun e => d11 e.symm⟩
-- DEV6
theorem hd_init {base b bl bf bp : Nat} {W : World} {lg lf lv : Int} {vr : Value} {rows : List (List Value)} (h1 : W.heap[bl]? = some (.cells #[.int .i64 lg] 3 (0, 0))) (h2 : W.heap[bf]? = some (.cells #[.int .i64 lf] 3 (0, 0))) (h4 : W.heap[bp]? = some (.cells #[.slice none 0 0] 61 (0, 0))) (h6 : (Kd.raw 3).R 26 W b (fun _ => True) vr rows) (l1 : bl < b) (l2 : bf < b) (l4 : bp < b) (lb : base ≤ b) (d1 : bp ≠ bl) (d2 : bp ≠ bf) (d3 : base ≤ bp) (hbW : b ≤ W.heap.size) :
    Hd base (W.alloc (.cells #[.int .i64 lv] 3)) bl bf W.heap.size bp lg lf lv vr rows [] := by
  have g6 := Kd.R_bound h6
  refine ⟨⟨blk_alloc h1 _, blk_alloc h2 _, blk_new W _⟩, ⟨_, blk_alloc h4 _, Kd.R_nil _ _ _ _ _⟩, ?_, ⟨d1, d2, d3⟩, by omega, by omega, by omega⟩
  exact Kd.R_alloc (Kd.R_lower (Kd.R_mono g6 (fun k hk => ⟨⟨by have := hk.2.1; omega, by have := hk.2.1; omega, by have := hk.2.1; omega⟩, by have := hk.2.2.1; omega⟩)) lb) _
theorem ev_mem {α : Type} (pr : α → S26) (lg lf lv : Int) : ∀ (l : List α) (s : Nat × List α × List S67) (p : α), p ∈ (l.foldl (evStep pr lg lf lv) s).2.1 → p ∈ s.2.1 ∨ p ∈ l
  | [], s, p, h => .inl h
  | x :: l, s, p, h => by
    rw [List.foldl_cons] at h
    rcases ev_mem pr lg lf lv l _ p h with h | h
    · by_cases c : No lg lf lv s.1 (pr x)
      · rw [evStep_no c] at h
        rcases List.mem_append.1 h with h | h
        · exact .inl h
        · exact .inr (by rw [List.mem_singleton.1 h]; simp)
      · rw [evStep_yes c] at h
        exact .inl h
    · exact .inr (by simp [h])
theorem ev_round (base bl bf bv bp : Nat) (lg lf lv : Int) (vr : Value) (zz : List (S26 × List Value)) (ps : List S67) (wr : World) (hH : Hd base wr bl bf bv bp lg lf lv vr (zz.map Prod.snd) ps) (hz : ∀ p ∈ zz, Zc p) (hb : base ≤ wr.heap.size) (hps : ps.length ≤ 500000) (hn : zz.length ≤ 100000) :
    ∃ A cap, vr = .slice A zz.length cap ∧ Calls Try.prog 66 #[vr, .func (.func 90) #[] #[.pointer (some ⟨wr.heap.size, 0, none⟩), .pointer (some ⟨bl, 0, none⟩), .pointer (some ⟨bf, 0, none⟩), .pointer (some ⟨bv, 0, none⟩), .pointer (some ⟨bp, 0, none⟩)]] (wr.alloc (.cells #[.int .i64 0] 3)) fun e w' =>
      ∃ vr', e = .returned vr' ∧ Hd base w' bl bf bv bp lg lf lv vr' ((evLevel Prod.fst lg lf lv zz).2.1.map Prod.snd) (ps ++ (evLevel Prod.fst lg lf lv zz).2.2) ∧ Below base wr w' := by
  have hBW : Below wr.heap.size wr (wr.alloc (.cells #[.int .i64 0] 3)) := (Below.refl wr.heap.size wr).alloc (Nat.le_refl _) _
  obtain ⟨A, cap, e⟩ := Kd.R_slice hH.2.2.1
  rw [List.length_map] at e
  refine ⟨A, cap, e, ?_⟩
  rcases Nat.eq_zero_or_pos zz.length with h0 | h0
  · obtain rfl : zz = [] := List.eq_nil_of_length_eq_zero h0
    have e2 : vr = .slice A 0 cap := e
    subst e2
    refine (ev_del0 A cap _ _).mono ?_
    rintro _ w' ⟨rfl, hb'⟩
    refine ⟨_, rfl, ?_, (hBW.mono hb).trans (hb'.mono (Nat.le_trans hb hBW.size))⟩
    have := hd_below (hd_below hH hBW) hb'
    show Hd base w' bl bf bv bp lg lf lv _ [] (ps ++ [])
    rw [List.append_nil]
    exact this
  · obtain ⟨g, cap2, e2, _, _⟩ := Kd.R_form hH.2.2.1 (by rw [List.length_map]; exact h0)
    rw [List.length_map] at e2
    subst e2
    injection e with e3 _ e4
    subst e3 e4
    obtain ⟨hP, hR, hD⟩ := hd_pl hH hb
    refine (ev_del base wr.heap.size bl bf bv bp g zz.length _ lg lf lv ps zz _ (Nat.le_trans hb hBW.size) rfl hz hR hP hD hps hn).mono ?_
    rintro _ w' ⟨rfl, hR', hP', hb'⟩
    exact ⟨_, rfl, hd_of hP' hR' hD hH.2.2.2.2.1 hH.2.2.2.2.2.1, (hBW.mono hb).trans hb'⟩
set_option maxHeartbeats 8000000 in
set_option maxRecDepth 100000 in
theorem ev_raw (A0 : Option Addr) (n c0 : Nat) (z : List (S26 × List Value)) (a1 a2 : Int) (w : World) (hN : ReadsRow (fun x cs => cs = x ∧ cs.length = 3 ∧ ∀ u ∈ cs, u.oneCell' = true) 3 w A0 n (z.map Prod.snd)) (hz : ∀ p ∈ z, Zc p) (hc0 : n ≤ c0) (hn : n ≤ 1000) (h0 : 0 ≤ a1) (h1 : a1 ≤ 100) :
    Calls Try.prog 73 #[.slice A0 n c0, .int .i64 a1, .int .i64 a2] w fun e w' => ∃ v1 v2 : Value, e = .returned (.tuple #[v1, v2]) ∧ Kd.R k67 67 w' w.heap.size (fun _ => True) v1 (evLevels Prod.fst a1 a2 (a1 + 1).toNat z []).1 ∧ (Kd.raw 3).R 26 w' w.heap.size (fun _ => True) v2 ((evLevels Prod.fst a1 a2 (a1 + 1).toNat z []).2.map Prod.snd) ∧ Below w.heap.size w w' := by
 have hzn : z.length = n := by have := hN.1; rw [List.length_map] at this; exact this
 have HN := Aside0.mk hN
 have HZ0 := Aside0.mk hz
 have hm0 : ((a1 + 1).toNat : Int) = a1 + 1 := by omega
 have hm1 : (a1 + 1).toNat ≤ 101 := by omega
 generalize (a1 + 1).toNat = M at hm0 hm1 ⊢
 obtain ⟨T, HT⟩ : ∃ T, Aside0 (evLevels Prod.fst a1 a2 M z [] = T) := ⟨_, ⟨rfl⟩⟩
 rw [HT.out]
 clear hN hz
 go_enter Try.func73, Try.ntmps73
 go_upto_region 2 with fail
 obtain ⟨W1, hW⟩ : ∃ W1, (((w.alloc (.cells #[.int .i64 a1] 3)).alloc (.cells #[.int .i64 a2] 3)).alloc (.cells #[.slice none 0 0] 61)) = W1 := ⟨_, rfl⟩
 rw [hW]
 have HS1 := Aside0.mk (show W1.heap.size = w.heap.size + 3 from hW ▸ (by simp))
 have k1 := Aside0.mk (show W1.heap[w.heap.size]? = some (.cells #[.int .i64 a1] 3 (0, 0)) from hW ▸ blk_alloc (blk_alloc (blk_new w _) _) _)
 have k2 := Aside0.mk (show W1.heap[w.heap.size + 1]? = some (.cells #[.int .i64 a2] 3 (0, 0)) from hW ▸ blk_alloc (by have := blk_new (w.alloc (.cells #[.int .i64 a1] 3)) (.cells #[.int .i64 a2] 3); rwa [show (w.alloc (.cells #[.int .i64 a1] 3)).heap.size = w.heap.size + 1 by simp] at this) _)
 have k3 := Aside0.mk (show W1.heap[w.heap.size + 1 + 1]? = some (.cells #[.slice none 0 0] 61 (0, 0)) from hW ▸ (by have := blk_new ((w.alloc (.cells #[.int .i64 a1] 3)).alloc (.cells #[.int .i64 a2] 3)) (.cells #[.slice none 0 0] 61); rwa [show ((w.alloc (.cells #[.int .i64 a1] 3)).alloc (.cells #[.int .i64 a2] 3)).heap.size = w.heap.size + 1 + 1 by simp] at this))
 have HB1 := Aside0.mk (show Below w.heap.size w W1 from hW ▸ (((Below.refl w.heap.size w).alloc (Nat.le_refl _) _).alloc (by simp) _).alloc (by simp; omega) _)
 clear hW
 have HCL := Aside0.mk (ev_clone A0 n c0 (z.map Prod.snd) W1 (ReadsRow.imp_ HN.out HB1.out (fun _ _ h_ => h_)) hc0 hn)
 go_wp2_with (go_at_call 78; refine (HCL.out).mono ?_; rintro e w2 ⟨v2, rfl, hr, hb⟩; have HR2 := Aside0.mk hr; have HB2 := Aside0.mk hb; have j1 := Aside0.mk (blk_below k1.out hb); have j2 := Aside0.mk (blk_below k2.out hb); have j3 := Aside0.mk (blk_below k3.out hb); clear hr hb; have cl : w2.cell? ⟨w.heap.size, 0, none⟩ = some (.int .i64 a1) := (blk_cell j1.out 0).trans rfl)
 have HH0 := Aside0.mk (hd_init (base := w.heap.size) (lv := a1) j1.out j2.out j3.out HR2.out (by have := HS1.out; omega) (by have := HS1.out; omega) (by have := HS1.out; omega) HB1.out.size (by omega) (by omega) (by omega) HB2.out.size)
 have HBH := Aside0.mk ((HB1.out.trans (HB2.out.mono HB1.out.size)).alloc (Nat.le_trans HB1.out.size HB2.out.size) (.cells #[.int .i64 a1] 3))
 have HSZ2 := Aside0.mk (Nat.le_trans HB1.out.size HB2.out.size)
 go_loopg [9, 10, 11] M (fun gg s9 s10 s11 wr => ∃ (m bv : Nat) (zz : List (S26 × List Value)) (ps : List S67), m ≤ gg ∧ m ≤ 101 ∧ s10 = .pointer (some ⟨bv, 0, none⟩) ∧ Aside0 (Below w.heap.size w wr) ∧ Aside0 (Hd w.heap.size wr w.heap.size (w.heap.size + 1) bv (w.heap.size + 1 + 1) a1 a2 ((m : Int) - 1) s9 (zz.map Prod.snd) ps) ∧ Aside0 (evLevels Prod.fst a1 a2 m zz ps = T) ∧ Aside0 (∀ p ∈ zz, Zc p) ∧ Aside0 (ps.length + zz.length ≤ 1000 ∧ w.heap.size ≤ bv))
 case atStart => exact ⟨M, w2.heap.size, z, [], Nat.le_refl _, hm1, rfl, HBH, ⟨by rw [hm0, show a1 + 1 - 1 = a1 from by omega]; exact HH0.out⟩, HT, HZ0, ⟨by rw [hzn]; show 0 + n ≤ 1000; omega, HSZ2.out⟩⟩
 case round =>
  clear HH0 HBH HCL HR2 HB2 j1 j2 j3 cl k1 k2 k3 HB1 HN HZ0 HT HS1 HSZ2
  obtain ⟨m, bv, zz, ps, hgg, hm, rfl, HB, HH, HE, HZ, HL⟩ := hrel
  cases m with
  | zero =>
   have cv : wr.cell? ⟨bv, 0, none⟩ = some (.int .i64 (-1)) := (blk_cell HH.out.1.2.2 0).trans rfl
   obtain ⟨v, hv, hRv⟩ := HH.out.2.1
   have cp : wr.cell? ⟨w.heap.size + 1 + 1, 0, none⟩ = some v := (blk_cell hv 0).trans rfl
   have HRV := Aside0.mk hRv
   clear hv hRv
   go_wp2
   go_ret2
   have he := HE.out
   unfold evLevels at he
   subst he
   exact ⟨_, _, rfl, Kd.R_mono HRV.out (fun _ _ => trivial), Kd.R_mono HH.out.2.2.1 (fun _ _ => trivial), HB.out⟩
  | succ m =>
   rw [show ((m + 1 : Nat) : Int) - 1 = (m : Int) from by omega] at HH
   have cv : wr.cell? ⟨bv, 0, none⟩ = some (.int .i64 (m : Int)) := (blk_cell HH.out.1.2.2 0).trans rfl
   have hge : decide ((m : Int) ≥ 0) = true := decide_eq_true (by omega)
   obtain ⟨A, cap, e9, hc⟩ := ev_round w.heap.size w.heap.size (w.heap.size + 1) bv (w.heap.size + 1 + 1) a1 a2 (m : Int) _ zz ps wr HH.out HZ.out HB.out.size (by have := HL.out.1; omega) (by have := HL.out.1; omega)
   have HC := Aside0.mk hc
   have hw1 : wrap64 ((m : Int) - 1) = (m : Int) - 1 := by unfold wrap64; omega
   have HI := Aside0.mk (ev_inv (α := S26 × List Value) Prod.fst a1 a2 (m : Int) zz (0, [], []) (by show 0 ≤ 4; omega))
   subst e9
   clear hc
   go_wp2_with (go_at_call 66; refine (HC.out).mono ?_; rintro e w5 ⟨v5, rfl, hh5, hb5⟩; have HH5 := Aside0.mk hh5; have HB5 := Aside0.mk hb5; have cv5 : w5.cell? ⟨bv, 0, none⟩ = some (.int .i64 (m : Int)) := (blk_cell hh5.1.2.2 0).trans rfl; clear hh5 hb5)
   go_roundg m
   case measure => omega
   case rel => exact ⟨m, w5.heap.size, (evLevel Prod.fst a1 a2 (m : Int) zz).2.1, ps ++ (evLevel Prod.fst a1 a2 (m : Int) zz).2.2, Nat.le_refl _, by omega, rfl, ⟨(HB.out.trans HB5.out).alloc (Nat.le_trans HB.out.size HB5.out.size) _⟩, ⟨hd_box HH5.out⟩, HE, ⟨fun p hp => HZ.out p ((ev_mem Prod.fst a1 a2 (m : Int) zz _ p hp).resolve_left (by simp))⟩, ⟨by
    have h1_ := HL.out.1
    have h2_ := HI.out.2
    rw [List.length_append]
    unfold evLevel
    simp only [List.length_nil] at h2_
    omega, Nat.le_trans HB.out.size HB5.out.size⟩⟩
-- DEV7
theorem evl_map {α β : Type} (q : α → β) (pr : β → S26) (lg lf lv : Int) : ∀ (l : List α) (s : Nat × List α × List S67), (l.map q).foldl (evStep pr lg lf lv) (s.1, s.2.1.map q, s.2.2) = ((l.foldl (evStep (fun x => pr (q x)) lg lf lv) s).1, (l.foldl (evStep (fun x => pr (q x)) lg lf lv) s).2.1.map q, (l.foldl (evStep (fun x => pr (q x)) lg lf lv) s).2.2)
  | [], s => rfl
  | x :: l, s => by
    rw [List.map_cons, List.foldl_cons, List.foldl_cons]
    have e : evStep pr lg lf lv (s.1, s.2.1.map q, s.2.2) (q x) = ((evStep (fun x => pr (q x)) lg lf lv s x).1, (evStep (fun x => pr (q x)) lg lf lv s x).2.1.map q, (evStep (fun x => pr (q x)) lg lf lv s x).2.2) := by
      by_cases c : No lg lf lv s.1 (pr (q x))
      · rw [evStep_no (s := (s.1, s.2.1.map q, s.2.2)) c, evStep_no (pr := fun x => pr (q x)) c]
        simp
      · rw [evStep_yes (s := (s.1, s.2.1.map q, s.2.2)) c, evStep_yes (pr := fun x => pr (q x)) c]
    rw [e]
    exact evl_map q pr lg lf lv l _
theorem evs_map {α β : Type} (q : α → β) (pr : β → S26) (lg lf : Int) : ∀ (m : Nat) (l : List α) (ps : List S67), evLevels pr lg lf m (l.map q) ps = ((evLevels (fun x => pr (q x)) lg lf m l ps).1, (evLevels (fun x => pr (q x)) lg lf m l ps).2.map q)
  | 0, l, ps => rfl
  | m + 1, l, ps => by
    have e := evl_map q pr lg lf (m : Int) l (0, [], [])
    have e2 : evLevel pr lg lf (m : Int) (l.map q) = ((evLevel (fun x => pr (q x)) lg lf (m : Int) l).1, (evLevel (fun x => pr (q x)) lg lf (m : Int) l).2.1.map q, (evLevel (fun x => pr (q x)) lg lf (m : Int) l).2.2) := e
    unfold evLevels
    rw [e2]
    exact evs_map q pr lg lf m _ _
theorem evl_sub {α : Type} (pr : α → S26) (lg lf lv : Int) : ∀ (l : List α) (s : Nat × List α × List S67), ∃ k, (l.foldl (evStep pr lg lf lv) s).2.1 = s.2.1 ++ k ∧ k.Sublist l
  | [], s => ⟨[], by simp, List.Sublist.refl _⟩
  | x :: l, s => by
    rw [List.foldl_cons]
    obtain ⟨k, h1, h2⟩ := evl_sub pr lg lf lv l (evStep pr lg lf lv s x)
    by_cases c : No lg lf lv s.1 (pr x)
    · rw [evStep_no c] at h1 ⊢
      exact ⟨x :: k, by rw [h1]; simp, h2.cons_cons x⟩
    · rw [evStep_yes c] at h1 ⊢
      exact ⟨k, h1, h2.cons x⟩
theorem evs_sub {α : Type} (pr : α → S26) (lg lf : Int) : ∀ (m : Nat) (l : List α) (ps : List S67), (evLevels pr lg lf m l ps).2.Sublist l
  | 0, l, ps => List.Sublist.refl _
  | m + 1, l, ps => by
    obtain ⟨k, h1, h2⟩ := evl_sub pr lg lf (m : Int) l (0, [], [])
    have h3 : (evLevel pr lg lf (m : Int) l).2.1 = k := by simpa [evLevel] using h1
    unfold evLevels
    rw [h3]
    exact (evs_sub pr lg lf m k _).trans h2
/-- The plan alone: out of what the list's cells lead to nothing is needed. -/
theorem ev_plan (A0 : Option Addr) (c0 : Nat) (l0 : List S26) (a1 a2 : Int) (w : World) (hr0 : Kd.C k26 w A0 l0.length l0) (hc0 : l0.length ≤ c0) (hn : l0.length ≤ 1000) (h0 : 0 ≤ a1) (h1 : a1 ≤ 100) :
    Calls Try.prog 73 #[.slice A0 l0.length c0, .int .i64 a1, .int .i64 a2] w fun e w' => ∃ v1 v2 : Value, e = .returned (.tuple #[v1, v2]) ∧ Kd.R k67 67 w' w.heap.size (fun _ => True) v1 (evLevels id a1 a2 (a1 + 1).toNat l0 []).1 ∧ Below w.heap.size w w' := by
 obtain ⟨news, hnl, hnews, hnk⟩ := Kd.reads_raw hr0 (fun x c h => ⟨k26.K_len h, k26.K_one h⟩)
 have hz1 : (l0.zip news).map Prod.fst = l0 := List.map_fst_zip (by omega)
 have hz2 : (l0.zip news).map Prod.snd = news := List.map_snd_zip (by omega)
 have hzc : ∀ p ∈ l0.zip news, Zc p := by
  intro p hp
  obtain ⟨j, hj, rfl⟩ := List.getElem_of_mem hp
  rw [List.length_zip] at hj
  have hK := hnk j l0[j] news[j] (List.getElem?_eq_getElem (by omega)) (List.getElem?_eq_getElem (by omega))
  obtain ⟨A2, c2, e, _, _⟩ := k26_open hK
  rw [List.getElem_zip]
  exact ⟨A2, _, c2, e⟩
 have h := ev_raw A0 l0.length c0 (l0.zip news) a1 a2 w (by rw [hz2]; exact hnews) hzc hc0 hn h0 h1
 have hm := evs_map (Prod.fst : S26 × List Value → S26) id a1 a2 (a1 + 1).toNat (l0.zip news) []
 rw [hz1] at hm
 refine h.mono ?_
 rintro e w' ⟨v1, v2, rfl, hR, _, hb⟩
 refine ⟨v1, v2, rfl, ?_, hb⟩
 rw [hm]
 exact hR
theorem s_of_raw {W : World} {base : Nat} {v : Value} {f : Nat → Nat} (ki : List ((S26 × List Value) × Nat)) (hraw : (Kd.raw 3).R 26 W base (fun _ => True) v (ki.map fun p => p.1.2)) (hM : ∀ p ∈ ki, k26.M W base (fun k => f k = p.2 ∧ some k ≠ v.ownBlock) p.1.1 p.1.2) (hnd : (ki.map fun p => p.2).Nodup) : Kd.S k26 26 W base (fun _ => True) v (ki.map fun p => p.1.1) := by
  obtain ⟨_, inner, ho, hr⟩ := hraw
  have hlen : inner.length = (ki.map fun p => p.1.1).length * 3 := by have h2 := hr.1; rw [List.length_map] at h2 ⊢; exact h2
  obtain ⟨f2, hf2⟩ := Kd.reps_tag (d := k26) (w := W) (base := base) (ok := fun k => True ∧ some k ≠ v.ownBlock) (xs := ki.map fun p => p.1.1) (inner := inner) (fun j k => ∃ p, ki[j]? = some p ∧ f k = p.2 ∧ some k ≠ v.ownBlock)
    (fun i2 j2 k h2 h3 => by
      obtain ⟨p, hp, e1, _⟩ := h2
      obtain ⟨q, hq, e2, _⟩ := h3
      have hi2 : i2 < (ki.map fun p => p.2).length := by rw [List.length_map]; exact (List.getElem?_eq_some_iff.1 hp).1
      refine (List.getElem?_inj hi2 hnd).1 ?_
      rw [List.getElem?_map, List.getElem?_map, hp, hq]
      show some p.2 = some q.2
      rw [← e1, ← e2]) (fun j k h2 => by
      obtain ⟨p, _, _, hk⟩ := h2
      exact ⟨trivial, hk⟩) hlen (fun j x hx => by
      rw [List.getElem?_map] at hx
      obtain ⟨p, hp, rfl⟩ := Option.map_eq_some_iff.1 hx
      have h2 := (hr.2 j p.1.2 (by rw [List.getElem?_map, hp]; rfl)).1
      have h3 : (inner.drop (j * 3)).take 3 = p.1.2 := h2
      show k26.M _ base _ p.1.1 ((inner.drop (j * 3)).take 3)
      rw [h3]
      exact k26.M_mono (fun k hk => ⟨p, hp, hk.1, hk.2⟩) (hM p (List.mem_of_getElem? hp)))
  exact ⟨f2, fun _ _ => trivial, inner, by rw [List.length_zipIdx, List.length_map]; rw [List.length_map] at ho; exact ho, hf2⟩
/-- Over a row of one's own: what is kept is a row of one's own. -/
theorem ev_rest (base : Nat) (A0 : Option Addr) (c0 : Nat) (l0 : List S26) (a1 a2 : Int) (w : World) (hS : Kd.S k26 26 w base (fun _ => True) (.slice A0 l0.length c0) l0) (hb0 : base ≤ w.heap.size) (hn : l0.length ≤ 1000) (h0 : 0 ≤ a1) (h1 : a1 ≤ 100) :
    Calls Try.prog 73 #[.slice A0 l0.length c0, .int .i64 a1, .int .i64 a2] w fun e w' => ∃ v1 v2 : Value, e = .returned (.tuple #[v1, v2]) ∧ Kd.S k26 26 w' base (fun _ => True) v2 (evLevels id a1 a2 (a1 + 1).toNat l0 []).2 ∧ Below w.heap.size w w' := by
 have hc0 : l0.length ≤ c0 := (Kd.S_reads' hS).2.1
 obtain ⟨f, h2, inner, ho, hr⟩ := Kd.S_bound hS
 rw [List.length_zipIdx] at ho
 have hrw := Kd.reps_raw hr (fun x c hp => ⟨k26.K_len (k26.K_of_M hp), k26.K_one (k26.K_of_M hp)⟩)
 rw [List.length_zipIdx] at hrw
 have hrow0 : (Kd.raw 3).R 26 w base (fun _ => True) (.slice A0 l0.length c0) (Kd.chunks 3 l0.length inner) := ⟨fun _ _ => trivial, inner, by rw [Kd.chunks_length]; exact ho, hrw⟩
 obtain ⟨zi, hzi⟩ : ∃ zi : List ((S26 × List Value) × Nat), zi = l0.zipIdx.map fun p => ((p.1, (inner.drop (p.2 * 3)).take 3), p.2) := ⟨_, rfl⟩
 have hzl : zi.length = l0.length := by rw [hzi, List.length_map, List.length_zipIdx]
 have hzm : ∀ (m : Nat) (hm : m < l0.length), zi[m]? = some ((l0[m], (inner.drop (m * 3)).take 3), m) := fun m hm => by
  rw [hzi, List.getElem?_map, List.getElem?_zipIdx, Nat.zero_add, List.getElem?_eq_getElem hm]; rfl
 have hz1 : zi.map (fun p => p.1.1) = l0 := by
  apply List.ext_getElem?
  intro m
  rw [List.getElem?_map]
  by_cases hm : m < l0.length
  ·
   rw [hzm m hm, List.getElem?_eq_getElem hm]; rfl
  rw [List.getElem?_eq_none (by omega), List.getElem?_eq_none (by omega)]; rfl
 have hz2 : (zi.map Prod.fst).map Prod.snd = Kd.chunks 3 l0.length inner := by
  apply List.ext_getElem?
  intro m
  rw [List.getElem?_map, List.getElem?_map]
  by_cases hm : m < l0.length
  ·
   rw [hzm m hm, Kd.chunks_at hm]; rfl
  rw [List.getElem?_eq_none (by omega), List.getElem?_eq_none (by rw [Kd.chunks_length]; omega)]; rfl
 have hz3 : (zi.map fun p => p.2).Nodup := by
  have e : (zi.map fun p => p.2) = List.range l0.length := by
   apply List.ext_getElem?
   intro m
   rw [List.getElem?_map]
   by_cases hm : m < l0.length
   ·
    rw [hzm m hm, List.getElem?_range hm]; rfl
   rw [List.getElem?_eq_none (by omega), List.getElem?_eq_none (by rw [List.length_range]; omega)]; rfl
  rw [e]; exact List.nodup_range
 have hMz : ∀ p ∈ zi, k26.M w base (fun k => f k = p.2 ∧ k < w.heap.size) p.1.1 p.1.2 := by
  intro p hp
  obtain ⟨m, hm, rfl⟩ := List.getElem_of_mem hp
  have hm2 : m < l0.length := by omega
  have h9 := hzm m hm2
  rw [List.getElem?_eq_getElem hm] at h9
  rw [Option.some.inj h9]
  have h8 := hr.2 m (l0[m], m) (Kd.zip_at (List.getElem?_eq_getElem hm2))
  exact k26.M_mono (fun k hk => ⟨hk.2, hk.1.1.2.2.1⟩) h8
 have hzc : ∀ p ∈ zi.map Prod.fst, Zc p := by
  intro p hp
  obtain ⟨q, hq, rfl⟩ := List.mem_map.1 hp
  obtain ⟨A2, c2, e, _, _⟩ := k26_open (k26.K_of_M (hMz q hq))
  exact ⟨A2, _, c2, e⟩
 have h := ev_raw A0 l0.length c0 (zi.map Prod.fst) a1 a2 w (by rw [hz2]; have := (Kd.R_reads' hrow0).2.2; rw [Kd.chunks_length] at this; exact this) hzc hc0 hn h0 h1
 have hm1 := evs_map (Prod.fst : (S26 × List Value) × Nat → S26 × List Value) Prod.fst a1 a2 (a1 + 1).toNat zi []
 have hm2 := evs_map (fun p : (S26 × List Value) × Nat => p.1.1) id a1 a2 (a1 + 1).toNat zi []
 rw [hz1] at hm2
 have hsub := evs_sub (fun p : (S26 × List Value) × Nat => p.1.1) a1 a2 (a1 + 1).toNat zi []
 refine h.mono ?_
 rintro e w' ⟨v1, v2, rfl, _, hR, hb⟩
 refine ⟨v1, v2, rfl, ?_, hb⟩
 rw [hm1] at hR
 rw [hm2]
 simp only [List.map_map] at hR
 have hb2 := Kd.R_base hR
 refine s_of_raw (f := f) _ (Kd.R_lower hR hb0) (fun p hp => ?_) (List.Sublist.nodup (List.Sublist.map _ hsub) hz3)
 exact k26.M_mono (fun k hk => ⟨hk.1, fun e => by have := hb2 k e.symm; have := hk.2; omega⟩) (Kd.M_below (hMz p (hsub.subset hp)) hb)

end Go.Proofs.Ytggfndobfpmoaaa.PFnEvicted

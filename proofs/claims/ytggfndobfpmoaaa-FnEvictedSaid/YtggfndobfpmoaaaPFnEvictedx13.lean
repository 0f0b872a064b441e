-- Laid by a program of this session: what the print of the kit writes, and contracts of the session where the print takes no function. Lean checks it.
import Derived.Test.YtggfndobfpmoaaaPFnEvictedx0
import Derived.Test.YtggfndobfpmoaaaPFnEvictedx8
import Derived.Test.YtggfndobfpmoaaaPFnEvictedx9
import Derived.Test.YtggfndobfpmoaaaPFnEvictedx11
import Derived.Test.YtggfndobfpmoaaaPFnEvictedx12
namespace Go.Proofs.Ytggfndobfpmoaaa.PFnEvicted
open Go.RowKit Go.Proofs.YtggfndobfpmoaaaW.PrintWords Go.Proofs.YtggfndobfpmoaaaW.PrintLast Go.Proofs.YtggfndobfpmoaaaW.PrintMore
attribute [local go_sem] max2_int min2_int max_two min_two max_three min_three max_four min_four   -- for this text's walks alone
set_option linter.unusedVariables false
set_option linter.unusedSimpArgs false

/-! ### impl_EvictPlan: function 42 -/
def impl_EvictPlan.f (k : Nat) (l0 : List S26) (a1 a2 a3 : Int) : Option (List S67) := (impl_isStash.f k l0 a1 a2).bind fun t => if t = true then (impl_isLeaf.f a1 a3).bind fun u => (if u = true then (impl_evict.f l0 a1 a3).bind fun p => some p.1 else some []) else some []
theorem impl_EvictPlan.mono : ∀ a0 a1 a2 a3 k, LeO (impl_EvictPlan.f k a0 a1 a2 a3) (impl_EvictPlan.f (k + 1) a0 a1 a2 a3) := by
  intro a0 a1 a2 a3 k r h
  unfold impl_EvictPlan.f at h ⊢
  obtain ⟨t, ht, h⟩ := Option.bind_eq_some_iff.mp h
  rw [impl_isStash.mono _ _ _ _ _ ht]
  exact h
set_option maxHeartbeats 4000000 in
set_option maxRecDepth 100000 in
theorem impl_EvictPlan.calls (k : Nat) (A0 : Option Addr) (c0 : Nat) (l0 : List (S26)) (a1 : Int) (a2 : Int) (a3 : Int) (r : List (S67)) (w : World) (hr0 : Kd.C k26 w A0 l0.length l0) (hc0 : l0.length ≤ c0) (h : impl_EvictPlan.f k l0 a1 a2 a3 = some r) :
    Calls Try.prog 42 #[.slice A0 l0.length c0, .int .i64 a1, .int .i64 a2, .int .i64 a3] w fun e w' => ∃ v0_ : Value, e = .returned (v0_) ∧ Kd.R k67 67 w' w.heap.size (fun _ => True) v0_ r ∧ Below w.heap.size w w' := by
 unfold impl_EvictPlan.f at h
 obtain ⟨t, ht, h⟩ := Option.bind_eq_some_iff.mp h
 have HR0 := Aside0.mk hr0
 have HC0 := Aside0.mk hc0
 have HT := Aside0.mk ht
 clear hr0 ht
 cases t with
 | false =>
  rw [if_neg (by decide)] at h
  obtain rfl := Option.some.inj h
  go_enter Try.func42, Try.ntmps42
  go_wp2_with (go_at_call 71; refine (impl_isStash.calls k A0 c0 l0 a1 a2 false _ HR0.out HC0.out HT.out).mono ?_; rintro e w1 ⟨rfl, hb⟩)
  go_ret
  exact ⟨_, rfl, Kd.R_nil _ _ _ _ _, hb⟩
 | true =>
  rw [if_pos rfl] at h
  obtain ⟨u, hu, h⟩ := Option.bind_eq_some_iff.mp h
  have HU := Aside0.mk hu
  clear hu
  cases u with
  | false =>
   rw [if_neg (by decide)] at h
   obtain rfl := Option.some.inj h
   go_enter Try.func42, Try.ntmps42
   go_wp2_with (first | (go_at_call 71; refine (impl_isStash.calls k A0 c0 l0 a1 a2 true _ HR0.out HC0.out HT.out).mono ?_; rintro e w1 ⟨rfl, hb⟩; have HB := Aside0.mk hb; clear hb) | (go_at_call 72; refine (impl_isLeaf.calls a1 a3 false _ HU.out).mono ?_; rintro e w2 ⟨rfl, ⟨nd, rfl⟩⟩))
   go_ret
   exact ⟨_, rfl, Kd.R_nil _ _ _ _ _, pw_below_drewN HB.out _⟩
  | true =>
   rw [if_pos rfl] at h
   obtain ⟨p, hp, h⟩ := Option.bind_eq_some_iff.mp h
   obtain rfl := Option.some.inj h
   unfold impl_evict.f at hp
   by_cases c : l0.length ≤ 1000 ∧ 0 ≤ a1 ∧ a1 ≤ 100
   ·
    rw [if_pos c] at hp
    obtain rfl := Option.some.inj hp
    have HL := Aside0.mk c
    clear hp c
    go_enter Try.func42, Try.ntmps42
    go_wp2_with (first | (go_at_call 71; refine (impl_isStash.calls k A0 c0 l0 a1 a2 true _ HR0.out HC0.out HT.out).mono ?_; rintro e w1 ⟨rfl, hb⟩; have HB := Aside0.mk hb; have HR1 := Aside0.mk (Kd.C_below HR0.out hb); clear hb) | (go_at_call 72; refine (impl_isLeaf.calls a1 a3 true _ HU.out).mono ?_; rintro e w2 ⟨rfl, ⟨nd, rfl⟩⟩; have HB2 := Aside0.mk (pw_below_drewN HB.out nd); have HR2 := Aside0.mk (Kd.C_drewN HR1.out nd)) | (go_at_call 73; refine (ev_plan A0 c0 l0 a1 a3 _ HR2.out HC0.out HL.out.1 HL.out.2.1 HL.out.2.2).mono ?_; rintro e w4 ⟨v1, v2, rfl, hr4, hb4⟩; have HO := Aside0.mk (Kd.R_lower hr4 HB2.out.size); have HB4 := Aside0.mk (HB2.out.trans (hb4.mono HB2.out.size)); clear hr4 hb4))
    go_ret
    exact ⟨_, rfl, HO.out, HB4.out⟩
   rw [if_neg c] at hp
   cases hp

/-! ### spec_OnPath: function 45 -/
def spec_OnPath.l0 : Nat → Int → List Int → Int → Option (Bool)
  | 0, _, _, _ => none
  | k + 1, x1, x7, x8 => if x8 < (x7.length : Int) then (if 0 ≤ x8 then (if (rd x7 x8) = x1 then (some true) else (spec_OnPath.l0 k x1 x7 (wrap64 (x8 + 1)))) else (none)) else (some false)
def spec_OnPath.f (k : Nat) (a0 : Int) (a1 : Int) (a2 : Int) : Option (Bool) := (spec_PathNodes.f k a0 a2).bind fun t413 => (spec_OnPath.l0 k a1 t413 0)
theorem spec_OnPath.mono_l : ∀ k, (∀ y0 y1 y2, LeO (spec_OnPath.l0 k y0 y1 y2) (spec_OnPath.l0 (k + 1) y0 y1 y2))
  | 0 => fun _ _ _ r h => by simp [spec_OnPath.l0] at h
  | k + 1 => by
    have ih0 := spec_OnPath.mono_l k
    · intro y0 y1 y2
      unfold spec_OnPath.l0
      repeat' first
      | (with_reducible exact ih0 _ _ _)
      | (with_reducible exact spec_PathNodes.mono _ _ _)
      | (with_reducible exact LeO.refl _)
      | (with_reducible exact LeO.none _)
      | (with_reducible refine LeO.ite ?_ ?_)
      | (with_reducible refine LeO.bind ?_ (fun _ => ?_))
      | exact ih0 _ _ _
      | exact spec_PathNodes.mono _ _ _
      | exact LeO.none _
      | refine LeO.ite ?_ ?_
      | refine LeO.bind ?_ (fun _ => ?_)
theorem spec_OnPath.mono : ∀ a0 a1 a2 k, LeO (spec_OnPath.f k a0 a1 a2) (spec_OnPath.f (k + 1) a0 a1 a2) := by
  intro a0 a1 a2 k
  have ih0 := spec_OnPath.mono_l k
  unfold spec_OnPath.f
  repeat' first
      | (with_reducible exact ih0 _ _ _)
      | (with_reducible exact spec_PathNodes.mono _ _ _)
      | (with_reducible exact LeO.refl _)
      | (with_reducible exact LeO.none _)
      | (with_reducible refine LeO.ite ?_ ?_)
      | (with_reducible refine LeO.bind ?_ (fun _ => ?_))
      | exact ih0 _ _ _
      | exact spec_PathNodes.mono _ _ _
      | exact LeO.none _
      | refine LeO.ite ?_ ?_
      | refine LeO.bind ?_ (fun _ => ?_)
set_option maxHeartbeats 8000000 in
set_option maxRecDepth 100000 in
theorem spec_OnPath.calls (k : Nat) (a0 : Int) (a1 : Int) (a2 : Int) (r : Bool) (w : World) (h : spec_OnPath.f k a0 a1 a2 = some r) :
    Calls Try.prog 45 #[.int .i64 a0, .int .i64 a1, .int .i64 a2] w fun e w' => e = .returned (.bool r) ∧ Below w.heap.size w w' := by
 have HB := Aside0.mk (Below.refl w.heap.size w)
 have H : ((spec_PathNodes.f k a0 a2).bind fun t413 => (spec_OnPath.l0 k a1 t413 0)) = some r := h
 clear h
 replace H := Option.bind_eq_some_iff.mp H
 obtain ⟨t413, A40, H⟩ := H
 replace H : (spec_OnPath.l0 k a1 t413 0) = some r := H
 have A4 := Aside0.mk A40
 clear A40
 have H' := Aside0.mk H
 clear H
 go_enter Try.func45, Try.ntmps45
 go_wp2_with (first | ((with_reducible refine gate_callee (f := 46) rfl ?_); refine goesL_ (some 11) rfl rfl Try.func46 (by kernel_rfl) rfl #[.int .i64 a0, .int .i64 a2] rfl (by (try simp only [List.map_toArray, List.map_cons, List.map_nil]); first | done | rfl | (simp only [List.length_drop, List.length_take]; rfl)) ?_; (with_reducible refine (spec_PathNodes.calls k a0 a2 t413 _ A4.out).mono ?_); rintro e w5 ⟨v414, rfl, ho0, hb⟩; refine ⟨_, rfl, ?_⟩; have n0_ := Aside0.mk (Kd.R_lower ho0 (below_size (by repeat (first | (with_reducible first | exact HB.out | apply below_alloc | apply pw_below_drewN | apply below_drew1) | exact HB.out)))); have n1_ := Aside0.mk (below_step (by repeat (first | (with_reducible first | exact HB.out | apply below_alloc | apply pw_below_drewN | apply below_drew1) | exact HB.out)) hb); clear HB; have HO415 := n0_; have HB := n1_; clear n0_ n1_; (try clear hb); (try clear hb2); (try clear hk); (try clear hi); (try clear ho0)))
 go_loopg [8] k (fun kq v8 w' => ∃ (x8_1 : Int), v8 = .int .i64 x8_1 ∧ Aside0 (spec_OnPath.l0 kq a1 t413 x8_1 = some r) ∧ Aside0 (kq ≤ k) ∧ Aside0 (Kd.R (Kd.int .i64) 3 w' w.heap.size (fun _ => True) v414 t413) ∧ Aside0 (Below w.heap.size w w'))
 case atStart => exact ⟨(0), (by first | rfl | (simp; done) | (simp [*]; done)), H', ⟨Nat.le_refl _⟩, ⟨by (with_reducible repeat (first | apply Kd.R_alloc | apply Kd.R_drewN | apply Kd.R_drew)); exact HO415.out⟩, ⟨by repeat (first | (with_reducible first | exact HB.out | apply below_alloc | apply pw_below_drewN | apply below_drew1) | exact HB.out)⟩⟩
 case round =>
  clear H'
  try clear p2
  try clear c4
  obtain ⟨x8_1, rfl, HA, HK1, HO_7, HB⟩ := hrel
  cases gk with
  | zero => exact absurd HA.out (by simp [spec_OnPath.l0])
  | succ k1 =>
   have H := HA.out
   clear HA
   simp only [spec_OnPath.l0] at H
   by_cases c6 : x8_1 < (t413.length : Int)
   rotate_left
   ·
    rw [if_neg c6] at H
    have c6b0 : decide (x8_1 < (t413.length : Int)) = false := decide_eq_false c6
    clear c6
    obtain rfl := Option.some.inj H
    obtain ⟨Ao11, co11, eo11⟩ := Kd.R_slice HO_7.out
    subst eo11
    go_wp2
    go_ret
    exact ⟨by first | rfl | (simp [errW_none, errW_some] <;> rfl) | (simp [*, errW_none, errW_some] <;> rfl), by repeat (first | (with_reducible first | exact HB.out | apply below_alloc | apply pw_below_drewN | apply below_drew1) | exact HB.out)⟩
   rw [if_pos c6] at H
   have c6b0 : decide (x8_1 < (t413.length : Int)) = true := decide_eq_true c6
   clear c6
   by_cases c7 : 0 ≤ x8_1
   rotate_left
   ·
    rw [if_neg c7] at H
    exact absurd H (by simp)
   rw [if_pos c7] at H
   have c7b0 : decide (0 ≤ x8_1) = true := decide_eq_true c7
   clear c7
   by_cases c8 : (rd t413 x8_1) = a1
   ·
    rw [if_pos c8] at H
    have c8b0 : ((rd t413 x8_1) == a1) = true := beq_iff_eq.mpr c8
    have c8b1 : ((rd t413 x8_1) != a1) = false := bne_eq_false_iff_eq.mpr c8
    clear c8
    obtain rfl := Option.some.inj H
    obtain ⟨Ao9, co9, eo9⟩ := Kd.R_slice HO_7.out
    subst eo9
    have p416 : 0 ≤ (x8_1 : Int) := of_decide_eq_true (by first | (with_reducible assumption) | assumption)
    have q416 : x8_1 < (t413.length : Int) := of_decide_eq_true (by first | (with_reducible assumption) | assumption)
    obtain ⟨ad416, e416, hx416_0⟩ := Kd.at_int (Kd.R_reads' HO_7.out).2.2 x8_1 p416 q416
    cases e416
    replace p416 := eq_true p416
    replace q416 := eq_true q416
    go_wp2
    go_ret
    exact ⟨by first | rfl | (simp [errW_none, errW_some] <;> rfl) | (simp [*, errW_none, errW_some] <;> rfl), by repeat (first | (with_reducible first | exact HB.out | apply below_alloc | apply pw_below_drewN | apply below_drew1) | exact HB.out)⟩
   rw [if_neg c8] at H
   have c8b0 : ((rd t413 x8_1) == a1) = false := beq_eq_false_iff_ne.mpr c8
   have c8b1 : ((rd t413 x8_1) != a1) = true := bne_iff_ne.mpr c8
   have H' := Aside0.mk H
   clear H
   obtain ⟨Ao10, co10, eo10⟩ := Kd.R_slice HO_7.out
   subst eo10
   have p416 : 0 ≤ (x8_1 : Int) := of_decide_eq_true (by first | (with_reducible assumption) | assumption)
   have q416 : x8_1 < (t413.length : Int) := of_decide_eq_true (by first | (with_reducible assumption) | assumption)
   obtain ⟨ad416, e416, hx416_0⟩ := Kd.at_int (Kd.R_reads' HO_7.out).2.2 x8_1 p416 q416
   cases e416
   replace p416 := eq_true p416
   replace q416 := eq_true q416
   go_wp2
   go_roundg k1
   case measure => have := HK1.out; omega
   case rel => exact ⟨(wrap64 (x8_1 + 1)), (by first | rfl | (simp; done) | (simp [*]; done)), H', ⟨by have := HK1.out; omega⟩, ⟨by (with_reducible repeat (first | apply Kd.R_alloc | apply Kd.R_drewN | apply Kd.R_drew)); exact HO_7.out⟩, ⟨by repeat (first | (with_reducible first | exact HB.out | apply below_alloc | apply pw_below_drewN | apply below_drew1) | exact HB.out)⟩⟩

/-! ### bytes_Clone: function 79 -/
def bytes_Clone.f (l0 : List Int) : Option (List Int) := if l0.length < 140737488355328 then (some l0) else (none)
set_option maxHeartbeats 2000000 in
theorem bytes_Clone.calls (A0 : Option Addr) (c0 : Nat) (l0 : List Int) (r : List Int) (w : World) (hr0 : Kd.C (Kd.int .u8) w A0 l0.length l0) (hc0 : l0.length ≤ c0) (h : bytes_Clone.f l0 = some r) :
    Calls Try.prog 79 #[.slice A0 l0.length c0] w fun e w' => ∃ v0_ : Value, e = .returned (v0_) ∧ Kd.R (Kd.int .u8) 5 w' w.heap.size (fun _ => True) v0_ r ∧ Below w.heap.size w w' := by
 unfold bytes_Clone.f at h
 by_cases c1 : l0.length < 140737488355328
 rotate_left
 ·
  rw [if_neg c1] at h
  cases h
 rw [if_pos c1] at h
 obtain rfl := Option.some.inj h
 clear h
 have LM := Aside0.mk c1
 clear c1
 cases A0 with
 | none =>
  have e0 : l0 = [] := by
   rcases Nat.eq_zero_or_pos l0.length with hz | hz
   ·
    exact List.eq_nil_of_length_eq_zero hz
   obtain ⟨ad, e, _⟩ := hr0.2.2 hz; cases e
  subst e0
  clear hr0 hc0
  have q40 : ∀ (w : World) (a : Option Addr) (n c n' c' : Nat), (binOp .eql 24 (.slice a n c) (.slice none n' c')).run Try.prog w = .ok (.bool a.isNone) w := fun w a n c n' c' => Lib.run_eql_slice_nil w _ _ a n c n' c' Try.underlying24
  go_enter Try.func79, Try.ntmps79
  go_wp2
  go_ret
  exact ⟨_, rfl, Kd.R_nil _ _ _ _ _, Below.refl _ _⟩
 | some ad =>
  have HR0 := Aside0.mk hr0
  clear hr0
  have HB := Aside0.mk (Below.refl w.heap.size w)
  have q40 : ∀ (w : World) (a : Option Addr) (n c n' c' : Nat), (binOp .eql 24 (.slice a n c) (.slice none n' c')).run Try.prog w = .ok (.bool a.isNone) w := fun w a n c n' c' => Lib.run_eql_slice_nil w _ _ a n c n' c' Try.underlying24
  go_enter Try.func79, Try.ntmps79
  go_wp2_with (first | ((with_reducible refine gate_dst (N := 5) rfl ?_); refine Kd.R_lit (Kd.int .u8) _ 5 ?hg (N := 5) ?hd (xs := ([] : List Int)) (inner := []) (ok := fun _ => True) (okp := fun _ => True) ?hr ?hp (fun _ hk => hk) trivial (Below.refl _ _) (Nat.le_refl _) (by simp) ?_; (case hd => rfl); (case hg => rfl); (case hr => first | (go_simp; done) | (go_simp; rfl)); (case hp => exact (Reps.none _ _)); intro v5 w5 ho hb hg_ hnew_; clear hg_ hnew_; have n0_ := Aside0.mk (Kd.R_lower ho (below_size HB.out)); have n1_ := Aside0.mk (below_step HB.out hb); clear HB; have HO5 := n0_; have HB := n1_; clear n0_ n1_ hb ho) | ((with_reducible refine gate_builtin (b := .append) (xs := #[.tmp 5, .tmp 6]) rfl ?_); at_builtin; refine Kd.R_append_rows (Kd.int .u8) (w0 := w) w.heap.size rfl (.tmp 5) (.tmp 6) 24 5 (.int .u8 0) 1 rfl Try.underlying24 info5 rfl (by decide) (by omega) v5 ([] : List Int) l0 _ _ _ (fun _ => True) (fun _ => False) rfl rfl ?aO ?aR (fun _ _ h => h) (fun _ h => h.elim) ?aF ?aB ?aS ?aL ?_; (case aR => exact Kd.C_below HR0.out HB.out); (case aB => exact HB.out); (case aF => exact (fun _ _ => trivial)); (case aO => exact HO5.out); (case aS => exact (below_size HB.out)); (case aL => have := LM.out; simp; omega); intro v7 w7 ho hb hg hat; rw [List.nil_append] at ho; have n1_ := Aside0.mk hb; have n2_ := Aside0.mk ho; clear HB HO5; have HB := n1_; have HO7 := n2_; clear n1_ n2_ ho hb hg hat))
  go_ret
  exact ⟨_, rfl, HO7.out, HB.out⟩

/-! ### impl_cloneBlocks: function 52 -/
/-- A row of blocks on its way: the inner rows of those ahead of ii are new and apart, the others are those that came in by w0. -/
def Cl (w0 wr : World) (l0 : List S26) (ii : Nat) (v : Value) : Prop :=
  ∃ (rows : List (List Value)) (f : Nat → Nat), rows.length = l0.length ∧ (Kd.raw 3).R 26 wr w0.heap.size (fun _ => True) v rows ∧
    ∀ j x, l0[j]? = some x → ∃ u, rows[j]? = some [.int .i64 x.f0, .int .i64 x.f1, u] ∧
      (j < ii → (Kd.int .u8).R 5 wr w0.heap.size (fun k => f k = j ∧ some k ≠ v.ownBlock) u x.f2) ∧
      (ii ≤ j → ∃ A c, u = .slice A x.f2.length c ∧ x.f2.length ≤ c ∧ (Kd.int .u8).C w0 A x.f2.length x.f2)
theorem cl_read {w0 wr : World} {l0 : List S26} {ii g n cap : Nat} (h : Cl w0 wr l0 ii (.slice (some ⟨g, 0, none⟩) n cap)) (hi : ii < n) :
    ∃ x A c, l0[ii]? = some x ∧ wr.cell? ⟨g, ii * 3, none⟩ = some (.int .i64 x.f0) ∧ wr.cell? ⟨g, ii * 3 + 1, none⟩ = some (.int .i64 x.f1) ∧ wr.cell? ⟨g, ii * 3 + 2, none⟩ = some (.slice A x.f2.length c) ∧ wr.frozen? ⟨g, ii * 3 + 2, none⟩ = false ∧ x.f2.length ≤ c ∧ (Kd.int .u8).C w0 A x.f2.length x.f2 := by
  obtain ⟨rows, f, hl, hR, he⟩ := h
  have hn := (Kd.R_reads' hR).1
  have hil : ii < l0.length := by omega
  obtain ⟨u, hu, _, hb⟩ := he ii _ (List.getElem?_eq_getElem hil)
  obtain ⟨A, c, rfl, hc, hC⟩ := hb (Nat.le_refl _)
  obtain ⟨cs, _, hM, hcc, hfr⟩ := Kd.R_elem hR [] (ii : Int) (by omega) (by omega)
  have hcs : cs = [.int .i64 l0[ii].f0, .int .i64 l0[ii].f1, .slice A l0[ii].f2.length c] := by
    have h2 := hM.1
    rw [Int.toNat_natCast, List.getD_eq_getElem?_getD, hu] at h2
    exact h2
  subst hcs
  rw [Int.toNat_natCast] at hcc hfr
  exact ⟨_, A, c, List.getElem?_eq_getElem hil, hcc 0 _ rfl, hcc 1 _ rfl, hcc 2 _ rfl, hfr 2, hc, hC⟩
theorem cl_step {w0 wr w3 : World} {l0 : List S26} {ii g n cap b : Nat} {x : S26} {u' : Value} (h : Cl w0 wr l0 ii (.slice (some ⟨g, 0, none⟩) n cap)) (hi : ii < n) (hx : l0[ii]? = some x) (hb : Below wr.heap.size wr w3) (hle : wr.heap.size ≤ b) (hlo : w0.heap.size ≤ wr.heap.size) (hn : (Kd.int .u8).R 5 w3 b (fun _ => True) u' x.f2) :
    Cl w0 (w3.setCell ⟨g, ii * 3 + 2, none⟩ u') l0 (ii + 1) (.slice (some ⟨g, 0, none⟩) n cap) := by
  obtain ⟨rows, f, hl, hR, he⟩ := h
  have hgo : (Value.slice (some ⟨g, 0, none⟩) n cap).ownBlock = some g := by simp [Value.ownBlock]
  have hgl : g < wr.heap.size := Kd.R_lt hR g hgo
  have hnn := (Kd.R_reads' hR).1
  have hR3 := Kd.R_below hR hb
  obtain ⟨u, hu, _, hold⟩ := he ii x hx
  obtain ⟨A, c, rfl, _, _⟩ := hold (Nat.le_refl _)
  obtain ⟨cs, hcl, hM, hcc, _⟩ := Kd.R_elem hR3 [] (ii : Int) (by omega) (by omega)
  have hcs : cs = [.int .i64 x.f0, .int .i64 x.f1, .slice A x.f2.length c] := by
    have h2 := hM.1
    rw [Int.toNat_natCast, List.getD_eq_getElem?_getD, hu] at h2
    exact h2
  subst hcs
  have hone : u'.oneCell' = true := (Kd.R_val hn).2
  obtain ⟨hS, _⟩ := Kd.R_seg hR3 (ii : Int) (by omega) (by omega) (c := [.int .i64 x.f0, .int .i64 x.f1, .slice A x.f2.length c]) (seg := [u']) (j := 2) (x' := [.int .i64 x.f0, .int .i64 x.f1, u']) (okp := fun _ => False) hcl hcc (by show 2 + 1 ≤ 3; omega)
    ⟨rfl, rfl, fun q hq => (by have hq2 : q ∈ [.int .i64 x.f0, .int .i64 x.f1, u'] := hq; simp only [List.mem_cons, List.not_mem_nil, or_false] at hq2; rcases hq2 with rfl | rfl | rfl; exact rfl; exact rfl; exact hone)⟩ (fun _ hk => hk.elim)
  have hS2 : (Kd.raw 3).R 26 (w3.setCell ⟨g, ii * 3 + 2, none⟩ u') w0.heap.size (fun _ => True) (.slice (some ⟨g, 0, none⟩) n cap) (rows.set ii [.int .i64 x.f0, .int .i64 x.f1, u']) := hS
  refine ⟨rows.set ii [.int .i64 x.f0, .int .i64 x.f1, u'], fun k => if wr.heap.size ≤ k then ii else f k, by rw [List.length_set]; exact hl, hS2, fun j y hy => ?_⟩
  by_cases hj : j = ii
  · subst hj
    obtain rfl := Option.some.inj (hx.symm.trans hy)
    refine ⟨u', by rw [List.getElem?_set_self (by omega)], fun _ => ?_, fun h2 => by omega⟩
    have h1 := Kd.R_bound hn
    have h2 : (Kd.int .u8).R 5 w3 b (fun k => (if wr.heap.size ≤ k then j else f k) = j ∧ some k ≠ (Value.slice (some ⟨g, 0, none⟩) n cap).ownBlock) u' x.f2 := Kd.R_mono h1 (fun k hk => ⟨if_pos (Nat.le_trans hle hk.2.1), fun e_ => by rw [hgo] at e_; injection e_ with e_; have := hk.2.1; omega⟩)
    exact Kd.R_far (p := ⟨g, j * 3 + 2, none⟩) (Kd.R_lower h2 (by omega)) (fun k hk e_ => hk.2 (by rw [hgo, e_])) _
  · obtain ⟨u2, hu2, ha, hbb⟩ := he j y hy
    refine ⟨u2, by rw [List.getElem?_set_ne (fun e_ => hj e_.symm)]; exact hu2, fun h2 => ?_, fun h2 => hbb (by omega)⟩
    have h1 := Kd.R_bound (ha (by omega))
    have h3 := Kd.R_mono (ok' := fun k => (if wr.heap.size ≤ k then ii else f k) = j ∧ some k ≠ (Value.slice (some ⟨g, 0, none⟩) n cap).ownBlock) (Kd.R_below h1 hb) (fun k hk => ⟨by rw [if_neg (by have := hk.2.2.1; omega)]; exact hk.1.1, hk.1.2⟩)
    exact Kd.R_far (p := ⟨g, ii * 3 + 2, none⟩) h3 (fun k hk e_ => hk.2 (by rw [hgo, e_])) _
theorem cl_end {w0 wr : World} {l0 : List S26} {ii : Nat} {v : Value} (h : Cl w0 wr l0 ii v) (hi : l0.length ≤ ii) : Kd.S k26 26 wr w0.heap.size (fun _ => True) v l0 := by
  obtain ⟨rows, f, hl, ⟨_, inner, ho, hr⟩, he⟩ := h
  have hlen : inner.length = l0.length * 3 := by have h2 := hr.1; rw [hl] at h2; exact h2
  obtain ⟨f2, hf2⟩ := Kd.reps_tag (d := k26) (w := wr) (base := w0.heap.size) (ok := fun k => True ∧ some k ≠ v.ownBlock) (xs := l0) (inner := inner) (fun j k => f k = j ∧ some k ≠ v.ownBlock) (fun i j k h1 h2 => h1.1.symm.trans h2.1) (fun j k h1 => ⟨trivial, h1.2⟩) hlen (fun j x hx => by
    obtain ⟨u, hu, ha, _⟩ := he j x hx
    have hjl : j < l0.length := (List.getElem?_eq_some_iff.1 hx).1
    have h2 := (hr.2 j _ hu).1
    have h3 : (inner.drop (j * 3)).take 3 = [.int .i64 x.f0, .int .i64 x.f1, u] := h2
    show k26.M wr w0.heap.size _ x ((inner.drop (j * 3)).take 3)
    rw [h3]
    exact k26_mkM _ _ _ x (ha (by omega)))
  exact ⟨f2, fun _ _ => trivial, inner, by rw [List.length_zipIdx, ← hl]; exact ho, hf2⟩
theorem cl_len {w0 wr : World} {l0 : List S26} {ii : Nat} {v : Value} (h : Cl w0 wr l0 ii v) : ∃ A c, v = .slice A l0.length c ∧ (0 < l0.length → ∃ g, A = some ⟨g, 0, none⟩ ∧ w0.heap.size ≤ g) := by
  obtain ⟨rows, f, hl, hR, _⟩ := h
  obtain ⟨A, c, e⟩ := Kd.R_slice hR
  rw [hl] at e
  refine ⟨A, c, e, fun hp => ?_⟩
  obtain ⟨g, cap, e2, hb, _⟩ := Kd.R_form hR (by omega)
  rw [e] at e2
  injection e2 with e3
  exact ⟨g, e3, hb⟩
theorem cl_start {w0 wr : World} {A : Option Addr} {n : Nat} {l0 : List S26} {v : Value} {rows : List (List Value)} (hl : rows.length = l0.length) (hR : (Kd.raw 3).R 26 wr w0.heap.size (fun _ => True) v rows) (hK : ∀ (j : Nat) (x : S26) (c : List Value), l0[j]? = some x → rows[j]? = some c → k26.K w0 x c) : Cl w0 wr l0 0 v := by
  refine ⟨rows, fun _ => 0, hl, hR, fun j x hx => ?_⟩
  have hjl : j < rows.length := by have := (List.getElem?_eq_some_iff.1 hx).1; omega
  obtain ⟨A2, c2, e, h1, h2⟩ := k26_open (hK j x _ hx (List.getElem?_eq_getElem hjl))
  exact ⟨.slice A2 x.f2.length c2, by rw [List.getElem?_eq_getElem hjl, e], fun h => by omega, fun _ => ⟨A2, c2, rfl, h1, h2⟩⟩
set_option maxHeartbeats 2000000 in
theorem clone_raw (A0 : Option Addr) (c0 : Nat) (l0 : List S26) (w : World) (hr0 : Kd.C k26 w A0 l0.length l0) (hc0 : l0.length ≤ c0) (c1 : l0.length < 3518437208883) :
    Calls Try.prog 78 #[.slice A0 l0.length c0] w fun e w' => ∃ v0_ : Value, e = .returned (v0_) ∧ Cl w w' l0 0 v0_ ∧ Below w.heap.size w w' := by
 have LM := Aside0.mk c1
 clear c1
 cases A0 with
 | none =>
  have e0 : l0 = [] := by
   rcases Nat.eq_zero_or_pos l0.length with hz | hz
   ·
    exact List.eq_nil_of_length_eq_zero hz
   obtain ⟨ad, e, _⟩ := hr0.2.2 hz; cases e
  subst e0
  clear hr0 hc0
  have q40 : ∀ (w : World) (a : Option Addr) (n c n' c' : Nat), (binOp .eql 29 (.slice a n c) (.slice none n' c')).run Try.prog w = .ok (.bool a.isNone) w := fun w a n c n' c' => Lib.run_eql_slice_nil w _ _ a n c n' c' Try.underlying29
  go_enter Try.func78, Try.ntmps78
  go_wp2
  go_ret
  exact ⟨_, rfl, cl_start (A := none) (n := 0) (rows := []) rfl (Kd.R_nil _ _ _ _ _) (fun j x c hx => by simp at hx), Below.refl _ _⟩
 | some ad =>
  obtain ⟨news, hnl, hnews, hnk⟩ := Kd.reads_raw hr0 (fun x c h => ⟨k26.K_len h, k26.K_one h⟩)
  have HN := Aside0.mk hnews
  have HNL := Aside0.mk hnl
  have HNK := Aside0.mk hnk
  clear hr0 hnews hnl hnk
  have HB := Aside0.mk (Below.refl w.heap.size w)
  have q40 : ∀ (w : World) (a : Option Addr) (n c n' c' : Nat), (binOp .eql 29 (.slice a n c) (.slice none n' c')).run Try.prog w = .ok (.bool a.isNone) w := fun w a n c n' c' => Lib.run_eql_slice_nil w _ _ a n c n' c' Try.underlying29
  go_enter Try.func78, Try.ntmps78
  go_wp2_with (first | ((with_reducible refine gate_dst (N := 5) rfl ?_); refine Kd.R_lit (Kd.raw 3) _ 26 ?hg (N := 5) ?hd (xs := ([] : List (List Value))) (inner := []) (ok := fun _ => True) (okp := fun _ => True) ?hr ?hp (fun _ hk => hk) trivial (Below.refl _ _) (Nat.le_refl _) (by simp) ?_; (case hd => rfl); (case hg => rfl); (case hr => first | (go_simp; done) | (go_simp; rfl)); (case hp => exact (Reps.none _ _)); intro v5 w5 ho hb hg_ hnew_; clear hg_ hnew_; have n0_ := Aside0.mk (Kd.R_lower ho (below_size HB.out)); have n1_ := Aside0.mk (below_step HB.out hb); clear HB; have HO5 := n0_; have HB := n1_; clear n0_ n1_ hb ho) | ((with_reducible refine gate_builtin (b := .append) (xs := #[.tmp 5, .tmp 6]) rfl ?_); at_builtin; refine Kd.R_append_rows (Kd.raw 3) (Rr := fun x cs => cs = x ∧ cs.length = 3 ∧ ∀ u ∈ cs, u.oneCell' = true) (w0 := w) w.heap.size rfl (.tmp 5) (.tmp 6) 29 26 (.agg #[(.int .i64 0), (.int .i64 0), (.slice none 0 0)]) 40 rfl Try.underlying29 info26 rfl (by decide) (by omega) v5 ([] : List (List Value)) news _ _ _ (fun _ => True) (fun _ => False) rfl rfl ?aO ?aR (fun _ _ h => h) (fun _ h => h.elim) ?aF ?aB ?aS ?aL ?_; (case aR => exact ReadsRow.imp_ HN.out HB.out (fun _ _ h_ => h_)); (case aB => exact HB.out); (case aF => exact (fun _ _ => trivial)); (case aO => exact HO5.out); (case aS => exact (below_size HB.out)); (case aL => have := LM.out; simp; omega); intro v7 w7 ho hb hg hat; rw [List.nil_append] at ho; have n1_ := Aside0.mk hb; have n2_ := Aside0.mk ho; clear HB HO5; have HB := n1_; have HO7 := n2_; clear n1_ n2_ ho hb hg hat))
  go_ret
  exact ⟨_, rfl, cl_start (A := none) (n := 0) HNL.out HO7.out HNK.out, HB.out⟩
def impl_cloneBlocks.f (l0 : List S26) : Option (List S26) := if l0.length < 3518437208883 ∧ (∀ x ∈ l0, x.f2.length < 140737488355328) then some l0 else none
set_option maxHeartbeats 2000000 in
theorem impl_cloneBlocks.calls (A0 : Option Addr) (c0 : Nat) (l0 : List S26) (r : List S26) (w : World) (hr0 : Kd.C k26 w A0 l0.length l0) (hc0 : l0.length ≤ c0) (h : impl_cloneBlocks.f l0 = some r) :
    Calls Try.prog 52 #[.slice A0 l0.length c0] w fun e w' => ∃ v0_ : Value, e = .returned (v0_) ∧ Kd.S k26 26 w' w.heap.size (fun _ => True) v0_ r ∧ Below w.heap.size w w' := by
 unfold impl_cloneBlocks.f at h
 by_cases c : l0.length < 3518437208883 ∧ (∀ x ∈ l0, x.f2.length < 140737488355328)
 rotate_left
 ·
  rw [if_neg c] at h
  cases h
 rw [if_pos c] at h
 obtain rfl := Option.some.inj h
 have LM := Aside0.mk c.2
 have hlen := c.1
 have HCALL := Aside0.mk (clone_raw A0 c0 l0 w hr0 hc0 c.1)
 clear h c hr0 hc0
 have huB := Try.underlying26
 go_enter Try.func52, Try.ntmps52
 go_wp2_with (go_at_call 78; refine (HCALL.out).mono ?_; rintro e w1 ⟨v1, rfl, hcl, hb⟩; obtain ⟨A1, c1, rfl, hform⟩ := cl_len hcl; have HCL := Aside0.mk hcl; have HB := Aside0.mk hb; have HF := Aside0.mk hform; clear hcl hb hform)
 go_loopg [10] l0.length (fun gg s10 wr => ∃ kk : Nat, kk ≤ l0.length ∧ l0.length - kk ≤ gg ∧ s10 = .int .i64 kk ∧ Aside0 (Below w.heap.size w wr) ∧ Aside0 (Cl w wr l0 kk (.slice A1 l0.length c1)))
 case atStart => exact ⟨0, Nat.zero_le _, by omega, rfl, HB, HCL⟩
 case round =>
  clear HCL HB
  obtain ⟨kk, hkk, hgg, rfl, HB, HCL⟩ := hrel
  by_cases hlt : kk < l0.length
  rotate_left
  ·
   have hltz : ¬ (kk : Int) < (l0.length : Int) := by omega
   have HS := Aside0.mk (cl_end HCL.out (by omega))
   go_wp2
   go_ret
   exact ⟨_, rfl, HS.out, HB.out⟩
  have hltz : (kk : Int) < (l0.length : Int) := by omega
  obtain ⟨g, rfl, hg⟩ := HF.out (by omega)
  obtain ⟨x, A, c, hx, h0, h1, h2, hf2, hcc, hC⟩ := cl_read HCL.out hlt
  have HX := Aside0.mk hx
  have HCC := Aside0.mk hcc
  have HCR := Aside0.mk hC
  have HG := Aside0.mk hg
  have HGL := Aside0.mk (World.block_lt_of_cell? wr _ h0)
  clear hx hcc hC hg
  have HM := Aside0.mk (List.mem_of_getElem? HX.out)
  have HW := Aside0.mk (below_alloc (Below.refl wr.heap.size wr) (.cells #[.int .i64 x.f0, .int .i64 x.f1, .slice A x.f2.length c] 26))
  have HBW := Aside0.mk (below_alloc HB.out (.cells #[.int .i64 x.f0, .int .i64 x.f1, .slice A x.f2.length c] 26))
  have HC1 := Aside0.mk (bytes_Clone.calls A c x.f2 x.f2 (wr.alloc (.cells #[.int .i64 x.f0, .int .i64 x.f1, .slice A x.f2.length c] 26)) (Kd.C_below HCR.out HBW.out) HCC.out (by unfold bytes_Clone.f; rw [if_pos (LM.out x HM.out)]))
  have HH2 := Aside0.mk h2
  have HF2 := Aside0.mk hf2
  go_wp2_with (go_at_call 79; refine (HC1.out).mono ?_; rintro e w3 ⟨v1, rfl, ho, hb⟩; obtain ⟨Av, cv, rfl⟩ := Kd.R_slice ho; have HO := Aside0.mk ho; have HB3 := Aside0.mk (HW.out.trans (hb.mono HW.out.size)); clear ho hb; have h3 : w3.cell? ⟨g, kk * 3 + 2, none⟩ = some (.slice A x.f2.length c) := (HB3.out.cell (p := ⟨g, kk * 3 + 2, none⟩) HGL.out).trans HH2.out; have hf3 : w3.frozen? ⟨g, kk * 3 + 2, none⟩ = false := (HB3.out.frozen (p := ⟨g, kk * 3 + 2, none⟩) HGL.out).trans HF2.out)
  have HS := Aside0.mk (cl_step HCL.out hlt HX.out HB3.out HW.out.size HB.out.size HO.out)
  go_roundg (l0.length - (kk + 1))
  case measure => omega
  case rel => exact ⟨kk + 1, by omega, by omega, by go_num, ⟨below_set (HB.out.trans (HB3.out.mono HB.out.size)) HG.out⟩, HS⟩

/-! ### impl_EvictRest: function 47 -/
def impl_EvictRest.f (k : Nat) (l0 : List S26) (a1 a2 a3 : Int) : Option (List S26) := (impl_isStash.f k l0 a1 a2).bind fun t => if t = true then (impl_isLeaf.f a1 a3).bind fun u => (if u = true then (impl_cloneBlocks.f l0).bind fun l => (impl_evict.f l a1 a3).bind fun p => some p.2 else some []) else some []
theorem impl_EvictRest.mono : ∀ a0 a1 a2 a3 k, LeO (impl_EvictRest.f k a0 a1 a2 a3) (impl_EvictRest.f (k + 1) a0 a1 a2 a3) := by
  intro a0 a1 a2 a3 k r h
  unfold impl_EvictRest.f at h ⊢
  obtain ⟨t, ht, h⟩ := Option.bind_eq_some_iff.mp h
  rw [impl_isStash.mono _ _ _ _ _ ht]
  exact h
set_option maxHeartbeats 4000000 in
set_option maxRecDepth 100000 in
theorem impl_EvictRest.calls (k : Nat) (A0 : Option Addr) (c0 : Nat) (l0 : List (S26)) (a1 : Int) (a2 : Int) (a3 : Int) (r : List (S26)) (w : World) (hr0 : Kd.C k26 w A0 l0.length l0) (hc0 : l0.length ≤ c0) (h : impl_EvictRest.f k l0 a1 a2 a3 = some r) :
    Calls Try.prog 47 #[.slice A0 l0.length c0, .int .i64 a1, .int .i64 a2, .int .i64 a3] w fun e w' => ∃ v0_ : Value, e = .returned (v0_) ∧ Kd.S k26 26 w' w.heap.size (fun _ => True) v0_ r ∧ Below w.heap.size w w' := by
 unfold impl_EvictRest.f at h
 obtain ⟨t, ht, h⟩ := Option.bind_eq_some_iff.mp h
 have HR0 := Aside0.mk hr0
 have HC0 := Aside0.mk hc0
 have HT := Aside0.mk ht
 clear hr0 ht
 cases t with
 | false =>
  rw [if_neg (by decide)] at h
  obtain rfl := Option.some.inj h
  go_enter Try.func47, Try.ntmps47
  go_wp2_with (go_at_call 71; refine (impl_isStash.calls k A0 c0 l0 a1 a2 false _ HR0.out HC0.out HT.out).mono ?_; rintro e w1 ⟨rfl, hb⟩)
  go_ret
  exact ⟨_, rfl, Kd.S_nil _ _ _ _ _, hb⟩
 | true =>
  rw [if_pos rfl] at h
  obtain ⟨u, hu, h⟩ := Option.bind_eq_some_iff.mp h
  have HU := Aside0.mk hu
  clear hu
  cases u with
  | false =>
   rw [if_neg (by decide)] at h
   obtain rfl := Option.some.inj h
   go_enter Try.func47, Try.ntmps47
   go_wp2_with (first | (go_at_call 71; refine (impl_isStash.calls k A0 c0 l0 a1 a2 true _ HR0.out HC0.out HT.out).mono ?_; rintro e w1 ⟨rfl, hb⟩; have HB := Aside0.mk hb; clear hb) | (go_at_call 72; refine (impl_isLeaf.calls a1 a3 false _ HU.out).mono ?_; rintro e w2 ⟨rfl, ⟨nd, rfl⟩⟩))
   go_ret
   exact ⟨_, rfl, Kd.S_nil _ _ _ _ _, pw_below_drewN HB.out _⟩
  | true =>
   rw [if_pos rfl] at h
   obtain ⟨l, hl, h⟩ := Option.bind_eq_some_iff.mp h
   obtain ⟨p, hp, h⟩ := Option.bind_eq_some_iff.mp h
   obtain rfl := Option.some.inj h
   obtain rfl : l = l0 := by
    unfold impl_cloneBlocks.f at hl
    split at hl
    ·
     exact (Option.some.inj hl).symm
    cases hl
   have HLL := Aside0.mk hl
   unfold impl_evict.f at hp
   by_cases c : l.length ≤ 1000 ∧ 0 ≤ a1 ∧ a1 ≤ 100
   ·
    rw [if_pos c] at hp
    obtain rfl := Option.some.inj hp
    have HL := Aside0.mk c
    clear hp c hl
    go_enter Try.func47, Try.ntmps47
    go_wp2_with (first | (go_at_call 71; refine (impl_isStash.calls k A0 c0 l a1 a2 true _ HR0.out HC0.out HT.out).mono ?_; rintro e w1 ⟨rfl, hb⟩; have HB := Aside0.mk hb; have HR1 := Aside0.mk (Kd.C_below HR0.out hb); clear hb) | (go_at_call 72; refine (impl_isLeaf.calls a1 a3 true _ HU.out).mono ?_; rintro e w2 ⟨rfl, ⟨nd, rfl⟩⟩; have HB2 := Aside0.mk (pw_below_drewN HB.out nd); have HR2 := Aside0.mk (Kd.C_drewN HR1.out nd)) | (go_at_call 52; refine (impl_cloneBlocks.calls A0 c0 l l _ HR2.out HC0.out HLL.out).mono ?_; rintro e w3 ⟨v3, rfl, hs, hb⟩; obtain ⟨A3, c3, e3⟩ := Kd.S_slice hs; subst e3; have HS3 := Aside0.mk hs; have HB3 := Aside0.mk (HB2.out.trans (hb.mono HB2.out.size)); have HZ3 := Aside0.mk hb.size; clear hs hb) | (go_at_call 73; refine (ev_rest _ A3 c3 l a1 a3 _ HS3.out HZ3.out HL.out.1 HL.out.2.1 HL.out.2.2).mono ?_; rintro e w4 ⟨v1, v2, rfl, hs4, hb4⟩; have HO := Aside0.mk (Kd.S_lower hs4 HB2.out.size); have HB4 := Aside0.mk (HB3.out.trans (hb4.mono HB3.out.size)); clear hs4 hb4))
    go_ret
    exact ⟨_, rfl, HO.out, HB4.out⟩
   rw [if_neg c] at hp
   cases hp

end Go.Proofs.Ytggfndobfpmoaaa.PFnEvicted

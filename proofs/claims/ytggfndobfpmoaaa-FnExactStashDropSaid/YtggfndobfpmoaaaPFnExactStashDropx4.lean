-- Laid by a program of this session: what the print of the kit writes, and contracts of the session where the print takes no function. Lean checks it.
import Derived.Test.YtggfndobfpmoaaaPFnExactStashDropx0
namespace Go.Proofs.Ytggfndobfpmoaaa.PFnExactStashDrop
open Go.RowKit Go.Proofs.YtggfndobfpmoaaaW.PrintWords Go.Proofs.YtggfndobfpmoaaaW.PrintLast Go.Proofs.YtggfndobfpmoaaaW.PrintMore
attribute [local go_sem] max2_int min2_int max_two min_two max_three min_three max_four min_four   -- for this text's walks alone
set_option linter.unusedVariables false
set_option linter.unusedSimpArgs false

/-! ### impl_blockIndex: function 51 -/
/-- The first place of a block with that Id, from i on. -/
def idxId (id : Int) : List S26 → Nat → Int
  | [], _ => -1
  | x :: l, i => if x.f0 = id then (i : Int) else idxId id l (i + 1)
set_option maxHeartbeats 1000000 in
theorem blockIndex_lit (f0 f1 id : Int) (v2 : Value) (hv : v2.oneCell' = true) (g : Nat) (b : Bool) (w : World) (hc : w.cell? ⟨g, 0, none⟩ = some (.int .i64 id)) (hb : decide (f0 = id) = b) :
    Calls Try.prog 77 #[.agg #[.int .i64 f0, .int .i64 f1, v2], .pointer (some ⟨g, 0, none⟩)] w fun e w' => e = .returned (.bool b) ∧ Below w.heap.size w w' := by
  have huw := Try.underlying26
  have hlt : g < w.heap.size := World.block_lt_of_cell? w _ hc
  have HB := Aside0.mk ((Below.refl w.heap.size w).alloc (Nat.le_refl _) (.cells #[.int .i64 f0, .int .i64 f1, v2] 26))
  have hc2 : (w.alloc (.cells #[.int .i64 f0, .int .i64 f1, v2] 26)).cell? ⟨g, 0, none⟩ = some (.int .i64 id) := (World.cell?_alloc_lt _ _ _ hlt).trans hc
  have hb2 : (f0 == id) = b := by rw [← hb]; by_cases h_ : f0 = id <;> simp [h_]
  clear hc hlt hb
  go_enter Try.func77, Try.ntmps77
  go_wp2
  go_ret
  exact ⟨rfl, HB.out⟩
set_option maxHeartbeats 2000000 in
theorem blockIndex_idx (id r : Int) (g : Nat) (w : World) (A : Option Addr) (c : Nat) (l : List S26) (hr : Kd.C k26 w A l.length l) (hc : l.length ≤ c) (hg : w.cell? ⟨g, 0, none⟩ = some (.int .i64 id)) (h : idxId id l 0 = r) :
    Calls Try.prog 76 #[.slice A l.length c, .func (.func 77) #[] #[.pointer (some ⟨g, 0, none⟩)]] w fun e w' => e = .returned (.int .i64 r) ∧ Below w.heap.size w w' := by
  have hl : l.length ≤ 9223372036854775807 := hr.2.1
  have huw := Try.underlying26
  have eg : ∀ args w, (callFunc 77 args).run Try.prog w = .ok (.enter 77 args) w := enters_of Try.func77 (by kernel_rfl) rfl
  have HR := Aside0.mk hr
  have HI0 := Aside0.mk h
  have HG := Aside0.mk hg
  clear hr h hg
  go_enter Try.func76, Try.ntmps76
  go_wp2
  go_loopg [5, 8] l.length (fun gg _ s8 wr => ∃ kk : Nat, kk ≤ l.length ∧ l.length - kk ≤ gg ∧ s8 = .int .i64 kk ∧ Aside0 (Below w.heap.size w wr) ∧ Aside0 (idxId id (l.drop kk) kk = r))
  case atStart => exact ⟨0, Nat.zero_le _, by omega, rfl, ⟨Below.refl _ w⟩, HI0⟩
  case round =>
    clear HI0
    obtain ⟨kk, hkk, hgg, rfl, HB, HI⟩ := hrel
    by_cases hlt : kk < l.length
    · have hltz : (kk : Int) < (l.length : Int) := by omega
      obtain ⟨ad, A2, c2, e, h0, h1, h2, hl2, hi2⟩ := at_T26 HR.out (kk : Int) (by omega) hltz
      cases e
      clear hl2 hi2
      rw [Int.toNat_natCast] at h0 h1 h2
      replace h0 := (HB.out.cell (World.block_lt_of_cell? w _ h0)).trans h0
      replace h1 := (HB.out.cell (World.block_lt_of_cell? w _ h1)).trans h1
      replace h2 := (HB.out.cell (World.block_lt_of_cell? w _ h2)).trans h2
      have HC := Aside0.mk ((HB.out.cell (World.block_lt_of_cell? w _ HG.out)).trans HG.out)
      have hx : rd_T26 l (kk : Int) = l[kk] := by simp [rd_T26, hlt]
      have HX := HI.out
      rw [List.drop_eq_getElem_cons hlt, ← hx] at HX
      clear hx
      generalize rd_T26 l (kk : Int) = x at h0 h1 h2 HX
      have HX2 : (if x.f0 = id then (kk : Int) else idxId id (l.drop (kk + 1)) (kk + 1)) = r := HX
      clear HX HI
      have hcall := fun b hb => blockIndex_lit x.f0 x.f1 id (.slice A2 x.f2.length c2) rfl g b wr HC.out hb
      by_cases hid : x.f0 = id
      · rw [if_pos hid] at HX2
        have HE := Aside0.mk HX2
        have HC1 := Aside0.mk (hcall true (decide_eq_true hid))
        clear hcall HX2 hid
        go_wp2_with (go_at_call 77; refine (HC1.out).mono ?_; rintro e w' ⟨rfl, hb'⟩)
        go_ret
        exact ⟨congrArg (fun z => Ending.returned (Value.int .i64 z)) HE.out, HB.out.trans (hb'.mono HB.out.size)⟩
      · rw [if_neg hid] at HX2
        have HE := Aside0.mk HX2
        have HC1 := Aside0.mk (hcall false (decide_eq_false hid))
        clear hcall HX2 hid
        go_wp2_with (go_at_call 77; refine (HC1.out).mono ?_; rintro e w' ⟨rfl, hb'⟩)
        go_roundg (l.length - (kk + 1))
        case measure => omega
        case rel => exact ⟨kk + 1, by omega, by omega, by go_num, ⟨HB.out.trans (hb'.mono HB.out.size)⟩, HE⟩
    · have hltz : ¬ (kk : Int) < (l.length : Int) := by omega
      have HX := HI.out
      rw [List.drop_eq_nil_of_le (by omega)] at HX
      have HE := Aside0.mk (show (-1 : Int) = r from HX)
      clear HX HI
      go_wp2
      go_ret
      exact ⟨congrArg (fun z => Ending.returned (Value.int .i64 z)) HE.out, HB.out⟩
def impl_blockIndex.f (l0 : List S26) (a1 : Int) : Option (Int) := some (idxId a1 l0 0)
set_option maxHeartbeats 1000000 in
theorem impl_blockIndex.calls (A0 : Option Addr) (c0 : Nat) (l0 : List S26) (a1 : Int) (r : Int) (w : World) (hr0 : Kd.C k26 w A0 l0.length l0) (hc0 : l0.length ≤ c0) (h : impl_blockIndex.f l0 a1 = some r) :
    Calls Try.prog 51 #[.slice A0 l0.length c0, .int .i64 a1] w fun e w' => e = .returned (.int .i64 r) ∧ Below w.heap.size w w' := by
  have HI := Aside0.mk (Option.some.inj h)
  have HR := Aside0.mk hr0
  have HC := Aside0.mk hc0
  clear h hr0 hc0
  have hui := Try.underlying3
  have HB := Aside0.mk (below_alloc (Below.refl w.heap.size w) (.cells #[.int .i64 a1] 3))
  have HCALL := Aside0.mk (blockIndex_idx a1 r w.heap.size (w.alloc (.cells #[.int .i64 a1] 3)) A0 c0 l0 (Kd.C_below HR.out HB.out) HC.out (by simp [World.cell?_alloc_new]) HI.out)
  go_enter Try.func51, Try.ntmps51
  go_wp2_with (go_at_call 76; refine (HCALL.out).mono ?_; rintro e w' ⟨rfl, hb'⟩)
  go_ret
  exact ⟨rfl, HB.out.trans (hb'.mono HB.out.size)⟩

-- NOT PRINTED: function 78 (impl_Block_78)

/-! ### bytes_Clone: function 79 -/
def bytes_Clone.f (l0 : List Int) : Option (List Int) := if l0.length < 140737488355328 then (some l0) else (none)
set_option maxHeartbeats 2000000 in
theorem bytes_Clone.calls (A0 : Option Addr) (c0 : Nat) (l0 : List Int) (r : List Int) (w : World) (hr0 : Kd.C (Kd.int .u8) w A0 l0.length l0) (hc0 : l0.length ≤ c0) (h : bytes_Clone.f l0 = some r) :
    Calls Try.prog 79 #[.slice A0 l0.length c0] w fun e w' => ∃ v0_ : Value, e = .returned (v0_) ∧ Kd.R (Kd.int .u8) 5 w' w.heap.size (fun _ => True) v0_ r ∧ Below w.heap.size w w' := by
  unfold bytes_Clone.f at h
  by_cases c1 : l0.length < 140737488355328
  · rw [if_pos c1] at h
    obtain rfl := Option.some.inj h
    clear h
    have LM := Aside0.mk c1
    clear c1
    cases A0 with
    | none =>
      have e0 : l0 = [] := by
        rcases Nat.eq_zero_or_pos l0.length with hz | hz
        · exact List.eq_nil_of_length_eq_zero hz
        · obtain ⟨ad, e, _⟩ := hr0.2.2 hz; cases e
      subst e0
      clear hr0 hc0
      have q40 : ∀ (w : World) (a : Option Addr) (n c n' c' : Nat), (binOp .eql 24 (.slice a n c) (.slice none n' c')).run Try.prog w = .ok (.bool a.isNone) w := fun w a n c n' c' => Lib.run_eql_slice_nil w _ _ a n c n' c' Try.underlying24
      go_enter Try.func79, Try.ntmps79
      go_wp2
      go_ret
      exact ⟨_, rfl, Kd.R_nil _ _ _ _ _, Below.refl _ _⟩
    | some ad =>
      have HR0 := Aside0.mk hr0
      clear hr0
      have HB := Aside0.mk (Below.refl w.heap.size w)
      have q40 : ∀ (w : World) (a : Option Addr) (n c n' c' : Nat), (binOp .eql 24 (.slice a n c) (.slice none n' c')).run Try.prog w = .ok (.bool a.isNone) w := fun w a n c n' c' => Lib.run_eql_slice_nil w _ _ a n c n' c' Try.underlying24
      go_enter Try.func79, Try.ntmps79
      go_wp2_with (first | ((with_reducible refine gate_dst (N := 5) rfl ?_); refine Kd.R_lit (Kd.int .u8) _ 5 ?hg (N := 5) ?hd (xs := ([] : List Int)) (inner := []) (ok := fun _ => True) (okp := fun _ => True) ?hr ?hp (fun _ hk => hk) trivial (Below.refl _ _) (Nat.le_refl _) (by simp) ?_; (case hd => rfl); (case hg => rfl); (case hr => first | (go_simp; done) | (go_simp; rfl)); (case hp => exact (Reps.none _ _)); intro v5 w5 ho hb hg_ hnew_; clear hg_ hnew_; have n0_ := Aside0.mk (Kd.R_lower ho (below_size HB.out)); have n1_ := Aside0.mk (below_step HB.out hb); clear HB; have HO5 := n0_; have HB := n1_; clear n0_ n1_ hb ho) | ((with_reducible refine gate_builtin (b := .append) (xs := #[.tmp 5, .tmp 6]) rfl ?_); at_builtin; refine Kd.R_append_rows (Kd.int .u8) (w0 := w) w.heap.size rfl (.tmp 5) (.tmp 6) 24 5 (.int .u8 0) 1 rfl Try.underlying24 info5 rfl (by decide) (by omega) v5 ([] : List Int) l0 _ _ _ (fun _ => True) (fun _ => False) rfl rfl ?aO ?aR (fun _ _ h => h) (fun _ h => h.elim) ?aF ?aB ?aS ?aL ?_; (case aR => exact Kd.C_below HR0.out HB.out); (case aB => exact HB.out); (case aF => exact (fun _ _ => trivial)); (case aO => exact HO5.out); (case aS => exact (below_size HB.out)); (case aL => have := LM.out; simp; omega); intro v7 w7 ho hb hg hat; rw [List.nil_append] at ho; have n1_ := Aside0.mk hb; have n2_ := Aside0.mk ho; clear HB HO5; have HB := n1_; have HO7 := n2_; clear n1_ n2_ ho hb hg hat))
      go_ret
      exact ⟨_, rfl, HO7.out, HB.out⟩
  · rw [if_neg c1] at h
    cases h

/-! ### impl_cloneBlocks: function 52 -/
/-- A row of blocks on its way: the inner rows of those ahead of ii are new and apart, the others are those that came in by w0. -/
def Cl (w0 wr : World) (l0 : List S26) (ii : Nat) (v : Value) : Prop :=
  ∃ (rows : List (List Value)) (f : Nat → Nat), rows.length = l0.length ∧ (Kd.raw 3).R 26 wr w0.heap.size (fun _ => True) v rows ∧
    ∀ j x, l0[j]? = some x → ∃ u, rows[j]? = some [.int .i64 x.f0, .int .i64 x.f1, u] ∧
      (j < ii → (Kd.int .u8).R 5 wr w0.heap.size (fun k => f k = j ∧ some k ≠ v.ownBlock) u x.f2) ∧
      (ii ≤ j → ∃ A c, u = .slice A x.f2.length c ∧ x.f2.length ≤ c ∧ (Kd.int .u8).C w0 A x.f2.length x.f2)
theorem cl_read {w0 wr : World} {l0 : List S26} {ii g n cap : Nat} (h : Cl w0 wr l0 ii (.slice (some ⟨g, 0, none⟩) n cap)) (hi : ii < n) :
    ∃ x A c, l0[ii]? = some x ∧ wr.cell? ⟨g, ii * 3, none⟩ = some (.int .i64 x.f0) ∧ wr.cell? ⟨g, ii * 3 + 1, none⟩ = some (.int .i64 x.f1) ∧ wr.cell? ⟨g, ii * 3 + 2, none⟩ = some (.slice A x.f2.length c) ∧ wr.frozen? ⟨g, ii * 3 + 2, none⟩ = false ∧ x.f2.length ≤ c ∧ (Kd.int .u8).C w0 A x.f2.length x.f2 := by
  obtain ⟨rows, f, hl, hR, he⟩ := h
  have hn := (Kd.R_reads' hR).1
  have hil : ii < l0.length := by omega
  obtain ⟨u, hu, _, hb⟩ := he ii _ (List.getElem?_eq_getElem hil)
  obtain ⟨A, c, rfl, hc, hC⟩ := hb (Nat.le_refl _)
  obtain ⟨cs, _, hM, hcc, hfr⟩ := Kd.R_elem hR [] (ii : Int) (by omega) (by omega)
  have hcs : cs = [.int .i64 l0[ii].f0, .int .i64 l0[ii].f1, .slice A l0[ii].f2.length c] := by
    have h2 := hM.1
    rw [Int.toNat_natCast, List.getD_eq_getElem?_getD, hu] at h2
    exact h2
  subst hcs
  rw [Int.toNat_natCast] at hcc hfr
  exact ⟨_, A, c, List.getElem?_eq_getElem hil, hcc 0 _ rfl, hcc 1 _ rfl, hcc 2 _ rfl, hfr 2, hc, hC⟩
theorem cl_step {w0 wr w3 : World} {l0 : List S26} {ii g n cap b : Nat} {x : S26} {u' : Value} (h : Cl w0 wr l0 ii (.slice (some ⟨g, 0, none⟩) n cap)) (hi : ii < n) (hx : l0[ii]? = some x) (hb : Below wr.heap.size wr w3) (hle : wr.heap.size ≤ b) (hlo : w0.heap.size ≤ wr.heap.size) (hn : (Kd.int .u8).R 5 w3 b (fun _ => True) u' x.f2) :
    Cl w0 (w3.setCell ⟨g, ii * 3 + 2, none⟩ u') l0 (ii + 1) (.slice (some ⟨g, 0, none⟩) n cap) := by
  obtain ⟨rows, f, hl, hR, he⟩ := h
  have hgo : (Value.slice (some ⟨g, 0, none⟩) n cap).ownBlock = some g := by simp [Value.ownBlock]
  have hgl : g < wr.heap.size := Kd.R_lt hR g hgo
  have hnn := (Kd.R_reads' hR).1
  have hR3 := Kd.R_below hR hb
  obtain ⟨u, hu, _, hold⟩ := he ii x hx
  obtain ⟨A, c, rfl, _, _⟩ := hold (Nat.le_refl _)
  obtain ⟨cs, hcl, hM, hcc, _⟩ := Kd.R_elem hR3 [] (ii : Int) (by omega) (by omega)
  have hcs : cs = [.int .i64 x.f0, .int .i64 x.f1, .slice A x.f2.length c] := by
    have h2 := hM.1
    rw [Int.toNat_natCast, List.getD_eq_getElem?_getD, hu] at h2
    exact h2
  subst hcs
  have hone : u'.oneCell' = true := (Kd.R_val hn).2
  obtain ⟨hS, _⟩ := Kd.R_seg hR3 (ii : Int) (by omega) (by omega) (c := [.int .i64 x.f0, .int .i64 x.f1, .slice A x.f2.length c]) (seg := [u']) (j := 2) (x' := [.int .i64 x.f0, .int .i64 x.f1, u']) (okp := fun _ => False) hcl hcc (by show 2 + 1 ≤ 3; omega)
    ⟨rfl, rfl, fun q hq => (by have hq2 : q ∈ [.int .i64 x.f0, .int .i64 x.f1, u'] := hq; simp only [List.mem_cons, List.not_mem_nil, or_false] at hq2; rcases hq2 with rfl | rfl | rfl; exact rfl; exact rfl; exact hone)⟩ (fun _ hk => hk.elim)
  have hS2 : (Kd.raw 3).R 26 (w3.setCell ⟨g, ii * 3 + 2, none⟩ u') w0.heap.size (fun _ => True) (.slice (some ⟨g, 0, none⟩) n cap) (rows.set ii [.int .i64 x.f0, .int .i64 x.f1, u']) := hS
  refine ⟨rows.set ii [.int .i64 x.f0, .int .i64 x.f1, u'], fun k => if wr.heap.size ≤ k then ii else f k, by rw [List.length_set]; exact hl, hS2, fun j y hy => ?_⟩
  by_cases hj : j = ii
  · subst hj
    obtain rfl := Option.some.inj (hx.symm.trans hy)
    refine ⟨u', by rw [List.getElem?_set_self (by omega)], fun _ => ?_, fun h2 => by omega⟩
    have h1 := Kd.R_bound hn
    have h2 : (Kd.int .u8).R 5 w3 b (fun k => (if wr.heap.size ≤ k then j else f k) = j ∧ some k ≠ (Value.slice (some ⟨g, 0, none⟩) n cap).ownBlock) u' x.f2 := Kd.R_mono h1 (fun k hk => ⟨if_pos (Nat.le_trans hle hk.2.1), fun e_ => by rw [hgo] at e_; injection e_ with e_; have := hk.2.1; omega⟩)
    exact Kd.R_far (p := ⟨g, j * 3 + 2, none⟩) (Kd.R_lower h2 (by omega)) (fun k hk e_ => hk.2 (by rw [hgo, e_])) _
  · obtain ⟨u2, hu2, ha, hbb⟩ := he j y hy
    refine ⟨u2, by rw [List.getElem?_set_ne (fun e_ => hj e_.symm)]; exact hu2, fun h2 => ?_, fun h2 => hbb (by omega)⟩
    have h1 := Kd.R_bound (ha (by omega))
    have h3 := Kd.R_mono (ok' := fun k => (if wr.heap.size ≤ k then ii else f k) = j ∧ some k ≠ (Value.slice (some ⟨g, 0, none⟩) n cap).ownBlock) (Kd.R_below h1 hb) (fun k hk => ⟨by rw [if_neg (by have := hk.2.2.1; omega)]; exact hk.1.1, hk.1.2⟩)
    exact Kd.R_far (p := ⟨g, ii * 3 + 2, none⟩) h3 (fun k hk e_ => hk.2 (by rw [hgo, e_])) _
theorem cl_end {w0 wr : World} {l0 : List S26} {ii : Nat} {v : Value} (h : Cl w0 wr l0 ii v) (hi : l0.length ≤ ii) : Kd.S k26 26 wr w0.heap.size (fun _ => True) v l0 := by
  obtain ⟨rows, f, hl, ⟨_, inner, ho, hr⟩, he⟩ := h
  have hlen : inner.length = l0.length * 3 := by have h2 := hr.1; rw [hl] at h2; exact h2
  obtain ⟨f2, hf2⟩ := Kd.reps_tag (d := k26) (w := wr) (base := w0.heap.size) (ok := fun k => True ∧ some k ≠ v.ownBlock) (xs := l0) (inner := inner) (fun j k => f k = j ∧ some k ≠ v.ownBlock) (fun i j k h1 h2 => h1.1.symm.trans h2.1) (fun j k h1 => ⟨trivial, h1.2⟩) hlen (fun j x hx => by
    obtain ⟨u, hu, ha, _⟩ := he j x hx
    have hjl : j < l0.length := (List.getElem?_eq_some_iff.1 hx).1
    have h2 := (hr.2 j _ hu).1
    have h3 : (inner.drop (j * 3)).take 3 = [.int .i64 x.f0, .int .i64 x.f1, u] := h2
    show k26.M wr w0.heap.size _ x ((inner.drop (j * 3)).take 3)
    rw [h3]
    exact k26_mkM _ _ _ x (ha (by omega)))
  exact ⟨f2, fun _ _ => trivial, inner, by rw [List.length_zipIdx, ← hl]; exact ho, hf2⟩
theorem cl_len {w0 wr : World} {l0 : List S26} {ii : Nat} {v : Value} (h : Cl w0 wr l0 ii v) : ∃ A c, v = .slice A l0.length c ∧ (0 < l0.length → ∃ g, A = some ⟨g, 0, none⟩ ∧ w0.heap.size ≤ g) := by
  obtain ⟨rows, f, hl, hR, _⟩ := h
  obtain ⟨A, c, e⟩ := Kd.R_slice hR
  rw [hl] at e
  refine ⟨A, c, e, fun hp => ?_⟩
  obtain ⟨g, cap, e2, hb, _⟩ := Kd.R_form hR (by omega)
  rw [e] at e2
  injection e2 with e3
  exact ⟨g, e3, hb⟩
theorem cl_start {w0 wr : World} {A : Option Addr} {n : Nat} {l0 : List S26} {v : Value} {rows : List (List Value)} (hl : rows.length = l0.length) (hR : (Kd.raw 3).R 26 wr w0.heap.size (fun _ => True) v rows) (hK : ∀ (j : Nat) (x : S26) (c : List Value), l0[j]? = some x → rows[j]? = some c → k26.K w0 x c) : Cl w0 wr l0 0 v := by
  refine ⟨rows, fun _ => 0, hl, hR, fun j x hx => ?_⟩
  have hjl : j < rows.length := by have := (List.getElem?_eq_some_iff.1 hx).1; omega
  obtain ⟨A2, c2, e, h1, h2⟩ := k26_open (hK j x _ hx (List.getElem?_eq_getElem hjl))
  exact ⟨.slice A2 x.f2.length c2, by rw [List.getElem?_eq_getElem hjl, e], fun h => by omega, fun _ => ⟨A2, c2, rfl, h1, h2⟩⟩
set_option maxHeartbeats 2000000 in
theorem clone_raw (A0 : Option Addr) (c0 : Nat) (l0 : List S26) (w : World) (hr0 : Kd.C k26 w A0 l0.length l0) (hc0 : l0.length ≤ c0) (c1 : l0.length < 3518437208883) :
    Calls Try.prog 78 #[.slice A0 l0.length c0] w fun e w' => ∃ v0_ : Value, e = .returned (v0_) ∧ Cl w w' l0 0 v0_ ∧ Below w.heap.size w w' := by
  have LM := Aside0.mk c1
  clear c1
  cases A0 with
  | none =>
    have e0 : l0 = [] := by
      rcases Nat.eq_zero_or_pos l0.length with hz | hz
      · exact List.eq_nil_of_length_eq_zero hz
      · obtain ⟨ad, e, _⟩ := hr0.2.2 hz; cases e
    subst e0
    clear hr0 hc0
    have q40 : ∀ (w : World) (a : Option Addr) (n c n' c' : Nat), (binOp .eql 29 (.slice a n c) (.slice none n' c')).run Try.prog w = .ok (.bool a.isNone) w := fun w a n c n' c' => Lib.run_eql_slice_nil w _ _ a n c n' c' Try.underlying29
    go_enter Try.func78, Try.ntmps78
    go_wp2
    go_ret
    exact ⟨_, rfl, cl_start (A := none) (n := 0) (rows := []) rfl (Kd.R_nil _ _ _ _ _) (fun j x c hx => by simp at hx), Below.refl _ _⟩
  | some ad =>
    obtain ⟨news, hnl, hnews, hnk⟩ := Kd.reads_raw hr0 (fun x c h => ⟨k26.K_len h, k26.K_one h⟩)
    have HN := Aside0.mk hnews
    have HNL := Aside0.mk hnl
    have HNK := Aside0.mk hnk
    clear hr0 hnews hnl hnk
    have HB := Aside0.mk (Below.refl w.heap.size w)
    have q40 : ∀ (w : World) (a : Option Addr) (n c n' c' : Nat), (binOp .eql 29 (.slice a n c) (.slice none n' c')).run Try.prog w = .ok (.bool a.isNone) w := fun w a n c n' c' => Lib.run_eql_slice_nil w _ _ a n c n' c' Try.underlying29
    go_enter Try.func78, Try.ntmps78
    go_wp2_with (first | ((with_reducible refine gate_dst (N := 5) rfl ?_); refine Kd.R_lit (Kd.raw 3) _ 26 ?hg (N := 5) ?hd (xs := ([] : List (List Value))) (inner := []) (ok := fun _ => True) (okp := fun _ => True) ?hr ?hp (fun _ hk => hk) trivial (Below.refl _ _) (Nat.le_refl _) (by simp) ?_; (case hd => rfl); (case hg => rfl); (case hr => first | (go_simp; done) | (go_simp; rfl)); (case hp => exact (Reps.none _ _)); intro v5 w5 ho hb hg_ hnew_; clear hg_ hnew_; have n0_ := Aside0.mk (Kd.R_lower ho (below_size HB.out)); have n1_ := Aside0.mk (below_step HB.out hb); clear HB; have HO5 := n0_; have HB := n1_; clear n0_ n1_ hb ho) | ((with_reducible refine gate_builtin (b := .append) (xs := #[.tmp 5, .tmp 6]) rfl ?_); at_builtin; refine Kd.R_append_rows (Kd.raw 3) (Rr := fun x cs => cs = x ∧ cs.length = 3 ∧ ∀ u ∈ cs, u.oneCell' = true) (w0 := w) w.heap.size rfl (.tmp 5) (.tmp 6) 29 26 (.agg #[(.int .i64 0), (.int .i64 0), (.slice none 0 0)]) 40 rfl Try.underlying29 info26 rfl (by decide) (by omega) v5 ([] : List (List Value)) news _ _ _ (fun _ => True) (fun _ => False) rfl rfl ?aO ?aR (fun _ _ h => h) (fun _ h => h.elim) ?aF ?aB ?aS ?aL ?_; (case aR => exact ReadsRow.imp_ HN.out HB.out (fun _ _ h_ => h_)); (case aB => exact HB.out); (case aF => exact (fun _ _ => trivial)); (case aO => exact HO5.out); (case aS => exact (below_size HB.out)); (case aL => have := LM.out; simp; omega); intro v7 w7 ho hb hg hat; rw [List.nil_append] at ho; have n1_ := Aside0.mk hb; have n2_ := Aside0.mk ho; clear HB HO5; have HB := n1_; have HO7 := n2_; clear n1_ n2_ ho hb hg hat))
    go_ret
    exact ⟨_, rfl, cl_start (A := none) (n := 0) HNL.out HO7.out HNK.out, HB.out⟩
def impl_cloneBlocks.f (l0 : List S26) : Option (List S26) := if l0.length < 3518437208883 ∧ (∀ x ∈ l0, x.f2.length < 140737488355328) then some l0 else none
set_option maxHeartbeats 2000000 in
theorem impl_cloneBlocks.calls (A0 : Option Addr) (c0 : Nat) (l0 : List S26) (r : List S26) (w : World) (hr0 : Kd.C k26 w A0 l0.length l0) (hc0 : l0.length ≤ c0) (h : impl_cloneBlocks.f l0 = some r) :
    Calls Try.prog 52 #[.slice A0 l0.length c0] w fun e w' => ∃ v0_ : Value, e = .returned (v0_) ∧ Kd.S k26 26 w' w.heap.size (fun _ => True) v0_ r ∧ Below w.heap.size w w' := by
  unfold impl_cloneBlocks.f at h
  by_cases c : l0.length < 3518437208883 ∧ (∀ x ∈ l0, x.f2.length < 140737488355328)
  · rw [if_pos c] at h
    obtain rfl := Option.some.inj h
    have LM := Aside0.mk c.2
    have hlen := c.1
    have HCALL := Aside0.mk (clone_raw A0 c0 l0 w hr0 hc0 c.1)
    clear h c hr0 hc0
    have huB := Try.underlying26
    go_enter Try.func52, Try.ntmps52
    go_wp2_with (go_at_call 78; refine (HCALL.out).mono ?_; rintro e w1 ⟨v1, rfl, hcl, hb⟩; obtain ⟨A1, c1, rfl, hform⟩ := cl_len hcl; have HCL := Aside0.mk hcl; have HB := Aside0.mk hb; have HF := Aside0.mk hform; clear hcl hb hform)
    go_loopg [10] l0.length (fun gg s10 wr => ∃ kk : Nat, kk ≤ l0.length ∧ l0.length - kk ≤ gg ∧ s10 = .int .i64 kk ∧ Aside0 (Below w.heap.size w wr) ∧ Aside0 (Cl w wr l0 kk (.slice A1 l0.length c1)))
    case atStart => exact ⟨0, Nat.zero_le _, by omega, rfl, HB, HCL⟩
    case round =>
      clear HCL HB
      obtain ⟨kk, hkk, hgg, rfl, HB, HCL⟩ := hrel
      by_cases hlt : kk < l0.length
      · have hltz : (kk : Int) < (l0.length : Int) := by omega
        obtain ⟨g, rfl, hg⟩ := HF.out (by omega)
        obtain ⟨x, A, c, hx, h0, h1, h2, hf2, hcc, hC⟩ := cl_read HCL.out hlt
        have HX := Aside0.mk hx
        have HCC := Aside0.mk hcc
        have HCR := Aside0.mk hC
        have HG := Aside0.mk hg
        have HGL := Aside0.mk (World.block_lt_of_cell? wr _ h0)
        clear hx hcc hC hg
        have HM := Aside0.mk (List.mem_of_getElem? HX.out)
        have HW := Aside0.mk (below_alloc (Below.refl wr.heap.size wr) (.cells #[.int .i64 x.f0, .int .i64 x.f1, .slice A x.f2.length c] 26))
        have HBW := Aside0.mk (below_alloc HB.out (.cells #[.int .i64 x.f0, .int .i64 x.f1, .slice A x.f2.length c] 26))
        have HC1 := Aside0.mk (bytes_Clone.calls A c x.f2 x.f2 (wr.alloc (.cells #[.int .i64 x.f0, .int .i64 x.f1, .slice A x.f2.length c] 26)) (Kd.C_below HCR.out HBW.out) HCC.out (by unfold bytes_Clone.f; rw [if_pos (LM.out x HM.out)]))
        have HH2 := Aside0.mk h2
        have HF2 := Aside0.mk hf2
        go_wp2_with (go_at_call 79; refine (HC1.out).mono ?_; rintro e w3 ⟨v1, rfl, ho, hb⟩; obtain ⟨Av, cv, rfl⟩ := Kd.R_slice ho; have HO := Aside0.mk ho; have HB3 := Aside0.mk (HW.out.trans (hb.mono HW.out.size)); clear ho hb; have h3 : w3.cell? ⟨g, kk * 3 + 2, none⟩ = some (.slice A x.f2.length c) := (HB3.out.cell (p := ⟨g, kk * 3 + 2, none⟩) HGL.out).trans HH2.out; have hf3 : w3.frozen? ⟨g, kk * 3 + 2, none⟩ = false := (HB3.out.frozen (p := ⟨g, kk * 3 + 2, none⟩) HGL.out).trans HF2.out)
        have HS := Aside0.mk (cl_step HCL.out hlt HX.out HB3.out HW.out.size HB.out.size HO.out)
        go_roundg (l0.length - (kk + 1))
        case measure => omega
        case rel => exact ⟨kk + 1, by omega, by omega, by go_num, ⟨below_set (HB.out.trans (HB3.out.mono HB.out.size)) HG.out⟩, HS⟩
      · have hltz : ¬ (kk : Int) < (l0.length : Int) := by omega
        have HS := Aside0.mk (cl_end HCL.out (by omega))
        go_wp2
        go_ret
        exact ⟨_, rfl, HS.out, HB.out⟩
  · rw [if_neg c] at h
    cases h

-- NOT PRINTED: function 66 (impl_Block_66)

/-! ### impl_StashDrop: function 38 -/
set_option maxHeartbeats 1000000 in
theorem del_lit (f0 f1 id : Int) (v2 : Value) (hv : v2.oneCell' = true) (g : Nat) (b : Bool) (w : World) (hc : w.cell? ⟨g, 0, none⟩ = some (.int .i64 id)) (hb : decide (f0 = id) = b) :
    Calls Try.prog 67 #[.agg #[.int .i64 f0, .int .i64 f1, v2], .pointer (some ⟨g, 0, none⟩)] w fun e w' => e = .returned (.bool b) ∧ Below w.heap.size w w' := by
  have huw := Try.underlying26
  have hlt : g < w.heap.size := World.block_lt_of_cell? w _ hc
  have HB := Aside0.mk ((Below.refl w.heap.size w).alloc (Nat.le_refl _) (.cells #[.int .i64 f0, .int .i64 f1, v2] 26))
  have hc2 : (w.alloc (.cells #[.int .i64 f0, .int .i64 f1, v2] 26)).cell? ⟨g, 0, none⟩ = some (.int .i64 id) := (World.cell?_alloc_lt _ _ _ hlt).trans hc
  have hb2 : (f0 == id) = b := by rw [← hb]; by_cases h_ : f0 = id <;> simp [h_]
  clear hc hlt hb
  go_enter Try.func67, Try.ntmps67
  go_wp2
  go_ret
  exact ⟨rfl, HB.out⟩
set_option maxHeartbeats 2000000 in
theorem del_idx (id r : Int) (g : Nat) (w : World) (A : Option Addr) (c : Nat) (l : List S26) (hr : Kd.C k26 w A l.length l) (hc : l.length ≤ c) (hg : w.cell? ⟨g, 0, none⟩ = some (.int .i64 id)) (h : idxId id l 0 = r) :
    Calls Try.prog 76 #[.slice A l.length c, .func (.func 67) #[] #[.pointer (some ⟨g, 0, none⟩)]] w fun e w' => e = .returned (.int .i64 r) ∧ Below w.heap.size w w' := by
  have hl : l.length ≤ 9223372036854775807 := hr.2.1
  have huw := Try.underlying26
  have eg : ∀ args w, (callFunc 67 args).run Try.prog w = .ok (.enter 67 args) w := enters_of Try.func67 (by kernel_rfl) rfl
  have HR := Aside0.mk hr
  have HI0 := Aside0.mk h
  have HG := Aside0.mk hg
  clear hr h hg
  go_enter Try.func76, Try.ntmps76
  go_wp2
  go_loopg [5, 8] l.length (fun gg _ s8 wr => ∃ kk : Nat, kk ≤ l.length ∧ l.length - kk ≤ gg ∧ s8 = .int .i64 kk ∧ Aside0 (Below w.heap.size w wr) ∧ Aside0 (idxId id (l.drop kk) kk = r))
  case atStart => exact ⟨0, Nat.zero_le _, by omega, rfl, ⟨Below.refl _ w⟩, HI0⟩
  case round =>
    clear HI0
    obtain ⟨kk, hkk, hgg, rfl, HB, HI⟩ := hrel
    by_cases hlt : kk < l.length
    · have hltz : (kk : Int) < (l.length : Int) := by omega
      obtain ⟨ad, A2, c2, e, h0, h1, h2, hl2, hi2⟩ := at_T26 HR.out (kk : Int) (by omega) hltz
      cases e
      clear hl2 hi2
      rw [Int.toNat_natCast] at h0 h1 h2
      replace h0 := (HB.out.cell (World.block_lt_of_cell? w _ h0)).trans h0
      replace h1 := (HB.out.cell (World.block_lt_of_cell? w _ h1)).trans h1
      replace h2 := (HB.out.cell (World.block_lt_of_cell? w _ h2)).trans h2
      have HC := Aside0.mk ((HB.out.cell (World.block_lt_of_cell? w _ HG.out)).trans HG.out)
      have hx : rd_T26 l (kk : Int) = l[kk] := by simp [rd_T26, hlt]
      have HX := HI.out
      rw [List.drop_eq_getElem_cons hlt, ← hx] at HX
      clear hx
      generalize rd_T26 l (kk : Int) = x at h0 h1 h2 HX
      have HX2 : (if x.f0 = id then (kk : Int) else idxId id (l.drop (kk + 1)) (kk + 1)) = r := HX
      clear HX HI
      have hcall := fun b hb => del_lit x.f0 x.f1 id (.slice A2 x.f2.length c2) rfl g b wr HC.out hb
      by_cases hid : x.f0 = id
      · rw [if_pos hid] at HX2
        have HE := Aside0.mk HX2
        have HC1 := Aside0.mk (hcall true (decide_eq_true hid))
        clear hcall HX2 hid
        go_wp2_with (go_at_call 67; refine (HC1.out).mono ?_; rintro e w' ⟨rfl, hb'⟩)
        go_ret
        exact ⟨congrArg (fun z => Ending.returned (Value.int .i64 z)) HE.out, HB.out.trans (hb'.mono HB.out.size)⟩
      · rw [if_neg hid] at HX2
        have HE := Aside0.mk HX2
        have HC1 := Aside0.mk (hcall false (decide_eq_false hid))
        clear hcall HX2 hid
        go_wp2_with (go_at_call 67; refine (HC1.out).mono ?_; rintro e w' ⟨rfl, hb'⟩)
        go_roundg (l.length - (kk + 1))
        case measure => omega
        case rel => exact ⟨kk + 1, by omega, by omega, by go_num, ⟨HB.out.trans (hb'.mono HB.out.size)⟩, HE⟩
    · have hltz : ¬ (kk : Int) < (l.length : Int) := by omega
      have HX := HI.out
      rw [List.drop_eq_nil_of_le (by omega)] at HX
      have HE := Aside0.mk (show (-1 : Int) = r from HX)
      clear HX HI
      go_wp2
      go_ret
      exact ⟨congrArg (fun z => Ending.returned (Value.int .i64 z)) HE.out, HB.out⟩
/-- What is kept of elements (a block, its cells, its first place). -/
def kpt (id : Int) (z : List (S26 × List Value × Nat)) : List (S26 × List Value × Nat) := z.filter fun p => !decide (p.1.f0 = id)
/-- A row on its way through DeleteFunc: ahead of i what is kept of the first j, from j on what was there. -/
def Dl (base : Nat) (f : Nat → Nat) (z : List (S26 × List Value × Nat)) (id : Int) (g n cap : Nat) (wr : World) (i j : Nat) : Prop :=
  z.length = n ∧ i ≤ j ∧ j ≤ n ∧ i = (kpt id (z.take j)).length ∧ (∀ p ∈ z, k26.M wr base (fun k => f k = p.2.2 ∧ k ≠ g) p.1 p.2.1) ∧
    ∃ rows : List (List Value), (Kd.raw 3).R 26 wr base (fun _ => True) (.slice (some ⟨g, 0, none⟩) n cap) rows ∧ rows.take i = (kpt id (z.take j)).map (fun p => p.2.1) ∧ rows.drop j = (z.drop j).map (fun p => p.2.1)
theorem kpt_step (id : Int) (z : List (S26 × List Value × Nat)) (j : Nat) (h : j < z.length) : kpt id (z.take (j + 1)) = kpt id (z.take j) ++ if z[j].1.f0 = id then [] else [z[j]] := by
  unfold kpt
  rw [List.take_succ_eq_append_getElem h, List.filter_append]
  congr 1
  by_cases c : z[j].1.f0 = id <;> simp [c]
theorem dl_move {base i j g n cap : Nat} {f : Nat → Nat} {z : List (S26 × List Value × Nat)} {id : Int} {wr w1 : World} (h : Dl base f z id g n cap wr i j) (hb : Below wr.heap.size wr w1) : Dl base f z id g n cap w1 i j := by
  obtain ⟨h1, h2, h3, h4, h5, rows, h6, h7, h8⟩ := h
  exact ⟨h1, h2, h3, h4, fun p hp => Kd.M_below (h5 p hp) hb, rows, Kd.R_below h6 hb, h7, h8⟩
theorem dl_read {base i j g n cap : Nat} {f : Nat → Nat} {z : List (S26 × List Value × Nat)} {id : Int} {wr : World} (h : Dl base f z id g n cap wr i j) (hj : j < n) :
    ∃ (x : S26) (A : Option Addr) (c : Nat) (hz : j < z.length), z[j].1 = x ∧ z[j].2.1 = [.int .i64 x.f0, .int .i64 x.f1, .slice A x.f2.length c] ∧ wr.cell? ⟨g, j * 3, none⟩ = some (.int .i64 x.f0) ∧ wr.cell? ⟨g, j * 3 + 1, none⟩ = some (.int .i64 x.f1) ∧ wr.cell? ⟨g, j * 3 + 2, none⟩ = some (.slice A x.f2.length c) ∧ base ≤ g ∧ g < wr.heap.size := by
  obtain ⟨h1, h2, h3, h4, h5, rows, h6, h7, h8⟩ := h
  have hz : j < z.length := by omega
  have hn := (Kd.R_reads' h6).1
  obtain ⟨u, hu, ge⟩ := k26_openM (h5 z[j] (List.getElem_mem hz))
  obtain ⟨A, c, rfl⟩ := Kd.R_slice ge
  obtain ⟨cs, _, hM, hcc, _⟩ := Kd.R_elem h6 [] (j : Int) (by omega) (by omega)
  have hrow : rows[j]? = some [.int .i64 z[j].1.f0, .int .i64 z[j].1.f1, .slice A z[j].1.f2.length c] := by
    have h9 : (rows.drop j)[0]? = some z[j].2.1 := by rw [h8, List.drop_eq_getElem_cons hz]; rfl
    rw [List.getElem?_drop, Nat.add_zero, hu] at h9
    exact h9
  have hcs : cs = [.int .i64 z[j].1.f0, .int .i64 z[j].1.f1, .slice A z[j].1.f2.length c] := by
    have h2 := hM.1
    rw [Int.toNat_natCast, List.getD_eq_getElem?_getD, hrow] at h2
    exact h2
  subst hcs
  rw [Int.toNat_natCast] at hcc
  have hgo : (Value.slice (some ⟨g, 0, none⟩) n cap).ownBlock = some g := by simp [Value.ownBlock]
  exact ⟨z[j].1, A, c, hz, rfl, hu, hcc 0 _ rfl, hcc 1 _ rfl, hcc 2 _ rfl, Kd.R_base h6 g hgo, Kd.R_lt h6 g hgo⟩
theorem dl_skip {base i j g n cap : Nat} {f : Nat → Nat} {z : List (S26 × List Value × Nat)} {id : Int} {wr : World} (h : Dl base f z id g n cap wr i j) (hj : j < n) (hz : j < z.length) (hid : z[j].1.f0 = id) : Dl base f z id g n cap wr i (j + 1) := by
  obtain ⟨h1, h2, h3, h4, h5, rows, h6, h7, h8⟩ := h
  have hk := kpt_step id z j hz
  rw [if_pos hid, List.append_nil] at hk
  refine ⟨h1, by omega, by omega, by rw [hk]; exact h4, h5, rows, h6, by rw [hk]; exact h7, ?_⟩
  rw [← List.drop_drop, h8, ← List.map_drop, List.drop_drop]
theorem dl_keep {base i j g n cap : Nat} {f : Nat → Nat} {z : List (S26 × List Value × Nat)} {id : Int} {wr : World} {x : S26} {A : Option Addr} {c : Nat} (h : Dl base f z id g n cap wr i j) (hj : j < n) (hz : j < z.length) (hid : ¬ z[j].1.f0 = id) (hx : z[j].2.1 = [.int .i64 x.f0, .int .i64 x.f1, .slice A x.f2.length c]) :
    Dl base f z id g n cap (wr.setCells g (i * 3) [.int .i64 x.f0, .int .i64 x.f1, .slice A x.f2.length c]) (i + 1) (j + 1) := by
  obtain ⟨h1, h2, h3, h4, h5, rows, h6, h7, h8⟩ := h
  have hk := kpt_step id z j hz
  rw [if_neg hid] at hk
  have hn := (Kd.R_reads' h6).1
  have hgo : (Value.slice (some ⟨g, 0, none⟩) n cap).ownBlock = some g := by simp [Value.ownBlock]
  obtain ⟨cs, hcl, _, hcc, _⟩ := Kd.R_elem h6 [] (i : Int) (by omega) (by omega)
  obtain ⟨hS, hgr⟩ := Kd.R_seg h6 (i : Int) (by omega) (by omega) (c := cs) (seg := [.int .i64 x.f0, .int .i64 x.f1, .slice A x.f2.length c]) (j := 0) (x' := [.int .i64 x.f0, .int .i64 x.f1, .slice A x.f2.length c]) (okp := fun _ => False) hcl hcc (by show 0 + 3 ≤ 3; omega)
    (by
      have hl3 : cs.length = 3 := hcl
      have e : cs.take 0 ++ [.int .i64 x.f0, .int .i64 x.f1, .slice A x.f2.length c] ++ cs.drop (0 + [Value.int .i64 x.f0, .int .i64 x.f1, .slice A x.f2.length c].length) = [.int .i64 x.f0, .int .i64 x.f1, .slice A x.f2.length c] := by
        rw [List.drop_eq_nil_of_le (by show cs.length ≤ 0 + 3; omega)]; rfl
      refine ⟨e, by rw [e]; rfl, fun q hq => ?_⟩
      rw [e] at hq
      simp only [List.mem_cons, List.not_mem_nil, or_false] at hq
      rcases hq with rfl | rfl | rfl <;> rfl) (fun _ hk => hk.elim)
  rw [Int.toNat_natCast] at hS hgr
  refine ⟨h1, by omega, by omega, by rw [hk, List.length_append, ← h4]; rfl, fun p hp => Kd.M_grown (h5 p hp) hgr (fun k hk e_ => by injection e_ with e_; exact hk.2 e_), rows.set i [.int .i64 x.f0, .int .i64 x.f1, .slice A x.f2.length c], hS, ?_, ?_⟩
  · rw [hk, List.map_append, ← h7, List.take_add_one, List.take_set_of_le (Nat.le_refl _), List.getElem?_set_self (by omega)]
    rw [show ([z[j]].map fun p => p.2.1) = [z[j].2.1] from rfl, hx]
    rfl
  · rw [List.drop_set_of_lt (by omega), ← List.drop_drop, h8, ← List.map_drop, List.drop_drop]
theorem setCells_app (b : Nat) : ∀ (x y : List Value) (o : Nat) (w : World), w.setCells b o (x ++ y) = (w.setCells b o x).setCells b (o + x.length) y
  | [], y, o, w => by simp [World.setCells]
  | v :: x, y, o, w => by
    rw [List.cons_append]
    simp only [World.setCells]
    rw [setCells_app b x y (o + 1) _, List.length_cons, show o + 1 + x.length = o + (x.length + 1) from by omega]
/-- Elements from i on are overwritten. -/
theorem raw_fill {base g n cap : Nat} {ok : Nat → Prop} : ∀ (m i : Nat) (zs : List Value) (W : World) (rows : List (List Value)), zs.length = m * 3 → (∀ q ∈ zs, q.oneCell' = true) → i + m ≤ n →
    (Kd.raw 3).R 26 W base ok (.slice (some ⟨g, 0, none⟩) n cap) rows → ∃ rows', (Kd.raw 3).R 26 (W.setCells g (i * 3) zs) base ok (.slice (some ⟨g, 0, none⟩) n cap) rows' ∧ rows'.take i = rows.take i
  | 0, i, zs, W, rows, hl, _, _, h => by
    obtain rfl : zs = [] := List.eq_nil_of_length_eq_zero (by omega)
    exact ⟨rows, h, rfl⟩
  | m + 1, i, zs, W, rows, hl, h1, hi, h => by
    have hn := (Kd.R_reads' h).1
    obtain ⟨cs, hcl, _, hcc, _⟩ := Kd.R_elem h [] (i : Int) (by omega) (by omega)
    have h3 : (zs.take 3).length = 3 := by rw [List.length_take]; omega
    have hl3 : cs.length = 3 := hcl
    have e : cs.take 0 ++ zs.take 3 ++ cs.drop (0 + (zs.take 3).length) = zs.take 3 := by
      rw [List.drop_eq_nil_of_le (by omega), List.append_nil]; rfl
    obtain ⟨hS, _⟩ := Kd.R_seg h (i : Int) (by omega) (by omega) (c := cs) (seg := zs.take 3) (j := 0) (x' := zs.take 3) (okp := fun _ => False) hcl hcc (by show 0 + (zs.take 3).length ≤ 3; omega)
      (by
        refine ⟨e, by rw [e]; exact h3, fun q hq => ?_⟩
        rw [e] at hq
        exact h1 q (List.mem_of_mem_take hq)) (fun _ hk => hk.elim)
    rw [Int.toNat_natCast] at hS
    obtain ⟨rows', hR, ht⟩ := raw_fill m (i + 1) (zs.drop 3) _ _ (by rw [List.length_drop]; omega) (fun q hq => h1 q (List.mem_of_mem_drop hq)) (by omega) hS
    refine ⟨rows', ?_, ?_⟩
    · have e2 := setCells_app g (zs.take 3) (zs.drop 3) (i * 3) W
      rw [List.take_append_drop, h3] at e2
      rw [e2]
      rw [show (i + 1) * 3 = i * 3 + 3 from by omega] at hR
      exact hR
    · have h4 := congrArg (List.take i) ht
      rw [List.take_take, List.take_take, Nat.min_eq_left (by omega), List.take_set_of_le (Nat.le_refl _)] at h4
      exact h4
theorem dl_end {base i g n cap : Nat} {f : Nat → Nat} {z : List (S26 × List Value × Nat)} {id : Int} {wr : World} (h : Dl base f z id g n cap wr i n) (hz : ∀ (m : Nat) (p : S26 × List Value × Nat), z[m]? = some p → p.2.2 = m) (zs : List Value) (hl : zs.length = (n - i) * 3) (h1 : ∀ q ∈ zs, q.oneCell' = true) :
    Kd.S k26 26 (wr.setCells g (i * 3) zs) base (fun _ => True) (.slice (some ⟨g, 0, none⟩) i cap) ((kpt id z).map fun p => p.1) := by
  obtain ⟨a1, a2, a3, a4, a5, rows, a6, a7, a8⟩ := h
  obtain ⟨rows', hR, ht⟩ := raw_fill (n - i) i zs wr rows hl h1 (by omega) a6
  have hn := (Kd.R_reads' hR).1
  have hgo : (Value.slice (some ⟨g, 0, none⟩) n cap).ownBlock = some g := by simp [Value.ownBlock]
  have hT := Kd.R_take hR (m := i) (by omega)
  rw [List.take_of_length_le (show z.length ≤ n by omega)] at a4 a7
  rw [a7] at ht
  rw [ht] at hT
  obtain ⟨_, inner, ho, hr⟩ := hT
  have hlen : inner.length = ((kpt id z).map fun p => p.1).length * 3 := by have h2 := hr.1; rw [List.length_map] at h2 ⊢; exact h2
  have hM : ∀ p ∈ z, k26.M (wr.setCells g (i * 3) zs) base (fun k => f k = p.2.2 ∧ k ≠ g) p.1 p.2.1 := fun p hp => Kd.M_step (a5 p hp) (fun k hk _ => setCells_far zs _ k hk.2)
  have hsub : ∀ (j : Nat) (p : S26 × List Value × Nat), (kpt id z)[j]? = some p → p ∈ z := fun j p hp => (List.mem_filter.1 (List.mem_of_getElem? hp)).1
  have hnd : ((kpt id z).map fun p => p.2.2).Nodup := by
    have h2 : (z.map fun p => p.2.2) = List.range z.length := by
      apply List.ext_getElem?
      intro m
      rw [List.getElem?_map]
      by_cases hm : m < z.length
      · rw [List.getElem?_eq_getElem hm, List.getElem?_range hm, Option.map_some, hz m _ (List.getElem?_eq_getElem hm)]
      · rw [List.getElem?_eq_none (by omega), List.getElem?_eq_none (by rw [List.length_range]; omega), Option.map_none]
    have h3 : (z.map fun p => p.2.2).Nodup := by rw [h2]; exact List.nodup_range
    exact List.Sublist.nodup (List.Sublist.map _ List.filter_sublist) h3
  obtain ⟨f2, hf2⟩ := Kd.reps_tag (d := k26) (w := wr.setCells g (i * 3) zs) (base := base) (ok := fun k => True ∧ some k ≠ (Value.slice (some ⟨g, 0, none⟩) i cap).ownBlock) (xs := (kpt id z).map fun p => p.1) (inner := inner) (fun j k => ∃ p, (kpt id z)[j]? = some p ∧ f k = p.2.2 ∧ k ≠ g)
    (fun i2 j2 k h2 h3 => by
      obtain ⟨p, hp, e1, _⟩ := h2
      obtain ⟨q, hq, e2, _⟩ := h3
      have hi2 : i2 < ((kpt id z).map fun p => p.2.2).length := by rw [List.length_map]; exact (List.getElem?_eq_some_iff.1 hp).1
      refine (List.getElem?_inj hi2 hnd).1 ?_
      rw [List.getElem?_map, List.getElem?_map, hp, hq]
      show some p.2.2 = some q.2.2
      rw [← e1, ← e2]) (fun j k h2 => by
      obtain ⟨p, _, _, hk⟩ := h2
      exact ⟨trivial, fun e_ => hk (by simp [Value.ownBlock] at e_; exact e_)⟩) hlen (fun j x hx => by
      rw [List.getElem?_map] at hx
      obtain ⟨p, hp, rfl⟩ := Option.map_eq_some_iff.1 hx
      have h2 := (hr.2 j p.2.1 (by rw [List.getElem?_map, hp]; rfl)).1
      have h3 : (inner.drop (j * 3)).take 3 = p.2.1 := h2
      show k26.M _ base _ p.1 ((inner.drop (j * 3)).take 3)
      rw [h3]
      exact k26.M_mono (fun k hk => ⟨p, hp, hk.1, hk.2⟩) (hM p (hsub j p hp)))
  exact ⟨f2, fun _ _ => trivial, inner, by rw [List.length_zipIdx, List.length_map]; rw [List.length_map] at ho; exact ho, hf2⟩
theorem dl_open {base g n cap : Nat} {W : World} {l : List S26} (h : Kd.S k26 26 W base (fun _ => True) (.slice (some ⟨g, 0, none⟩) n cap) l) :
    ∃ (f : Nat → Nat) (z : List (S26 × List Value × Nat)), (z.map fun p => p.1) = l ∧ (∀ (m : Nat) (p : S26 × List Value × Nat), z[m]? = some p → p.2.2 = m) ∧
      ∀ (id : Int) (i : Nat) (hi : i < l.length), l[i].f0 = id → (∀ (m : Nat) (hm : m < i), l[m].f0 ≠ id) → Dl base f z id g n cap W i (i + 1) := by
  have hn := (Kd.S_reads' h).1
  obtain ⟨f, h0, inner, ho, hr⟩ := h
  rw [List.length_zipIdx] at ho
  have hgo : (Value.slice (some ⟨g, 0, none⟩) n cap).ownBlock = some g := by simp [Value.ownBlock]
  refine ⟨f, l.zipIdx.map fun p => (p.1, (inner.drop (p.2 * 3)).take 3, p.2), ?_, ?_, ?_⟩
  · rw [List.map_map]
    apply List.ext_getElem?
    intro m
    rw [List.getElem?_map, List.getElem?_zipIdx, Nat.zero_add, Option.map_map]
    cases l[m]? <;> rfl
  · intro m p hp
    rw [List.getElem?_map, List.getElem?_zipIdx, Nat.zero_add] at hp
    cases hl : l[m]? with
    | none => rw [hl] at hp; cases hp
    | some x => rw [hl] at hp; obtain rfl := Option.some.inj hp; rfl
  · intro id i hi hid hne
    have hzl : (l.zipIdx.map fun p => (p.1, (inner.drop (p.2 * 3)).take 3, p.2)).length = l.length := by rw [List.length_map, List.length_zipIdx]
    have hzm : ∀ (m : Nat) (hm : m < l.length), (l.zipIdx.map fun p => (p.1, (inner.drop (p.2 * 3)).take 3, p.2))[m]? = some (l[m], (inner.drop (m * 3)).take 3, m) := fun m hm => by
      rw [List.getElem?_map, List.getElem?_zipIdx, Nat.zero_add, List.getElem?_eq_getElem hm]; rfl
    have hrw := Kd.reps_raw hr (fun x c hp => ⟨k26.K_len (k26.K_of_M hp), k26.K_one (k26.K_of_M hp)⟩)
    rw [List.length_zipIdx] at hrw
    have hrows : (Kd.chunks 3 l.length inner) = (l.zipIdx.map fun p => (p.1, (inner.drop (p.2 * 3)).take 3, p.2)).map fun p => p.2.1 := by
      apply List.ext_getElem?
      intro m
      rw [List.getElem?_map]
      by_cases hm : m < l.length
      · rw [hzm m hm, Kd.chunks_at hm]; rfl
      · rw [List.getElem?_eq_none (by rw [Kd.chunks_length]; omega), List.getElem?_eq_none (by rw [hzl]; omega)]; rfl
    have hrow0 : (Kd.raw 3).R 26 W base (fun _ => True) (.slice (some ⟨g, 0, none⟩) n cap) (Kd.chunks 3 l.length inner) := ⟨fun _ _ => trivial, inner, by rw [Kd.chunks_length]; exact ho, hrw⟩
    generalize hz : (l.zipIdx.map fun p => (p.1, (inner.drop (p.2 * 3)).take 3, p.2)) = z at hzl hzm hrows
    have hkeep : kpt id (z.take i) = z.take i := by
      unfold kpt
      rw [List.filter_eq_self]
      intro p hp
      obtain ⟨m, hm, rfl⟩ := List.getElem_of_mem hp
      rw [List.length_take] at hm
      have hm2 : m < l.length := by omega
      have h9 := hzm m hm2
      rw [List.getElem_take]
      rw [List.getElem?_eq_getElem (by omega)] at h9
      rw [Option.some.inj h9]
      simpa using hne m (by omega)
    have hzi : i < z.length := by omega
    have hzid : z[i].1.f0 = id := by
      have h9 := hzm i hi
      rw [List.getElem?_eq_getElem hzi] at h9
      rw [Option.some.inj h9]
      exact hid
    have hk := kpt_step id z i hzi
    rw [if_pos hzid, List.append_nil, hkeep] at hk
    refine ⟨by omega, by omega, by omega, by rw [hk, List.length_take]; omega, fun p hp => ?_, Kd.chunks 3 l.length inner, hrow0, ?_, ?_⟩
    · obtain ⟨m, hm, rfl⟩ := List.getElem_of_mem hp
      have hm2 : m < l.length := by omega
      have h9 := hzm m hm2
      rw [List.getElem?_eq_getElem hm] at h9
      rw [Option.some.inj h9]
      have h8 := hr.2 m (l[m], m) (Kd.zip_at (List.getElem?_eq_getElem hm2))
      exact k26.M_mono (fun k hk => ⟨hk.2, fun e_ => hk.1.2 (by rw [hgo, e_])⟩) h8
    · rw [hk, hrows, List.map_take]
    · rw [hrows, List.map_drop]

theorem idx_found (id : Int) : ∀ (l : List S26) (k : Nat), 0 ≤ idxId id l k → ∃ (i : Nat) (hi : i < l.length), idxId id l k = ((k + i : Nat) : Int) ∧ l[i].f0 = id ∧ ∀ (m : Nat) (hm : m < i), l[m].f0 ≠ id
  | [], k, h => by simp [idxId] at h
  | x :: l, k, h => by
    by_cases c : x.f0 = id
    · exact ⟨0, by simp, by simp [idxId, c], by simpa using c, fun m hm => by omega⟩
    · have e : idxId id (x :: l) k = idxId id l (k + 1) := by simp [idxId, c]
      rw [e] at h ⊢
      obtain ⟨i, hi, h1, h2, h3⟩ := idx_found id l (k + 1) h
      refine ⟨i + 1, by simp; omega, by rw [h1]; omega, by simpa using h2, fun m hm => ?_⟩
      cases m with
      | zero => simpa using c
      | succ m => simpa using h3 m (by omega)
theorem below_cells {B g : Nat} {w : World} (hg : B ≤ g) : ∀ (vs : List Value) (o : Nat) (W : World), Below B w W → Below B w (W.setCells g o vs)
  | [], _, _, h => h
  | v :: r, o, W, h => below_cells hg r (o + 1) _ (h.setCell (p := ⟨g, o, none⟩) hg v)
theorem dl_cells {base i j g n cap : Nat} {f : Nat → Nat} {z : List (S26 × List Value × Nat)} {id : Int} {wr : World} (h : Dl base f z id g n cap wr i j) (m : Nat) (hm : m < n * 3) : (wr.cell? ⟨g, m, none⟩).isSome = true ∧ wr.frozen? ⟨g, m, none⟩ = false := by
  obtain ⟨h1, h2, h3, h4, h5, rows, h6, h7, h8⟩ := h
  have hn := (Kd.R_reads' h6).1
  obtain ⟨cs, hcl, _, hcc, hfr⟩ := Kd.R_elem h6 [] ((m / 3 : Nat) : Int) (by omega) (by omega)
  rw [Int.toNat_natCast] at hcc hfr
  have hl3 : cs.length = 3 := hcl
  have e : m / 3 * 3 + m % 3 = m := by omega
  have h9 : wr.cell? ⟨g, m / 3 * 3 + m % 3, none⟩ = some _ := hcc (m % 3) _ (List.getElem?_eq_getElem (by omega))
  have h10 : wr.frozen? ⟨g, m / 3 * 3 + m % 3, none⟩ = false := hfr (m % 3)
  rw [e] at h9 h10
  exact ⟨by rw [h9]; rfl, h10⟩
/-- n elements' zero cells. -/
def zrow (n : Nat) : List Value := (Builtin.zeroCells #[.int .i64 0, .int .i64 0, .slice none 0 0] n).toList
theorem zrow_len (n : Nat) : (zrow n).length = n * 3 := by simp [zrow, Builtin.zeroCells]
theorem zrow_one (n : Nat) : ∀ q ∈ zrow n, q.oneCell' = true := by
  intro q hq
  simp only [zrow, Builtin.zeroCells, Array.toList_map, List.mem_map] at hq
  obtain ⟨i, _, rfl⟩ := hq
  have h3 : i % 3 < 3 := Nat.mod_lt _ (by omega)
  show (#[Value.int .i64 0, .int .i64 0, .slice none 0 0][i % 3]!).oneCell' = true
  rcases (by omega : i % 3 = 0 ∨ i % 3 = 1 ∨ i % 3 = 2) with e | e | e <;> rw [e] <;> rfl
theorem zero_block (w : World) : (zeroValue 26).run Try.prog w = .ok (.agg #[.int .i64 0, .int .i64 0, .slice none 0 0]) w := by
  obtain ⟨i, hi, he⟩ := Option.map_eq_some_iff.1 info26
  have hz : i.zero = some (.agg #[.int .i64 0, .int .i64 0, .slice none 0 0]) := congrArg Prod.fst he
  simp [zeroValue, typeInfo, hi, hz]
/-- clear of a part of a row of blocks. -/
theorem clear_rows (w : World) (b o n c : Nat) (hn : 0 < n) (hc : ∀ j, j < n * 3 → (w.cell? ⟨b, o + j, none⟩).isSome = true) (hf : ∀ j, j < n * 3 → w.frozen? ⟨b, o + j, none⟩ = false) (ty : TypeId) :
    (Builtin.clear_ #[29] ty #[.slice (some ⟨b, o, none⟩) n c]).run Try.prog w = .ok (.tuple #[]) (w.setCells b o (zrow n)) := by
  have hst := run_storeCells_cells (P := Try.prog) b o (zrow n) 0 w (by rw [zrow_len]; simpa using hc) (by rw [zrow_len]; simpa using hf) (zrow_one n)
  simp only [Nat.add_zero] at hst
  have hzc : (Builtin.zeroCells (Value.cells (.agg #[.int .i64 0, .int .i64 0, .slice none 0 0])) n).toList = zrow n := rfl
  obtain ⟨m, rfl⟩ : ∃ m, n = m + 1 := ⟨n - 1, by omega⟩
  simp [Builtin.clear_, run_underlying Try.underlying29, zero_block, hzc, hst]
theorem new_cell {wr w' : World} {a b c : Value} {t : TypeId} (h : Below (wr.alloc (.cells #[a, b, c] t)).heap.size (wr.alloc (.cells #[a, b, c] t)) w') (k : Nat) {v : Value} (hk : #[a, b, c][k]? = some v) : w'.cell? ⟨wr.heap.size, k, none⟩ = some v := by
  refine (h.cell (p := ⟨wr.heap.size, k, none⟩) ?_).trans ?_
  · show wr.heap.size < (wr.alloc (.cells #[a, b, c] t)).heap.size
    simp
  · exact (World.cell?_alloc_new wr _ t k).trans hk
set_option maxHeartbeats 4000000 in
set_option maxRecDepth 100000 in
theorem del_func (id : Int) (gc g n cap base : Nat) (l : List S26) (w : World) (hS : Kd.S k26 26 w base (fun _ => True) (.slice (some ⟨g, 0, none⟩) n cap) l) (hgc : gc < base) (hb0 : base ≤ w.heap.size) (hg : w.cell? ⟨gc, 0, none⟩ = some (.int .i64 id)) (hid : 0 ≤ idxId id l 0) :
    Calls Try.prog 66 #[.slice (some ⟨g, 0, none⟩) n cap, .func (.func 67) #[] #[.pointer (some ⟨gc, 0, none⟩)]] w fun e w' => ∃ v, e = .returned v ∧ Kd.S k26 26 w' base (fun _ => True) v (l.filter fun x => !decide (x.f0 = id)) ∧ Below base w w' := by
  obtain ⟨hn, hcap, hC⟩ := Kd.S_reads' hS
  have hgb : base ≤ g := Kd.S_base hS g (by simp [Value.ownBlock])
  have hn63 : n ≤ 9223372036854775807 := by rw [hn]; exact hC.2.1
  obtain ⟨i0, hi0, hr, hidx, hbefore⟩ := idx_found id l 0 hid
  obtain ⟨f, z, hzm, hzi, hopen⟩ := dl_open hS
  have HD0 := Aside0.mk (hopen id i0 hi0 hidx hbefore)
  have HF := Aside0.mk (hn ▸ del_idx id (i0 : Int) gc w (some ⟨g, 0, none⟩) cap l hC (by omega) hg (by rw [hr]; omega) : Calls Try.prog 76 #[.slice (some ⟨g, 0, none⟩) n cap, .func (.func 67) #[] #[.pointer (some ⟨gc, 0, none⟩)]] w fun e w' => e = .returned (.int .i64 (i0 : Int)) ∧ Below w.heap.size w w')
  have HZ := Aside0.mk hzi
  have HZM := Aside0.mk hzm
  have HG := Aside0.mk hg
  have HB0 := Aside0.mk hb0
  have HGB := Aside0.mk hgb
  have HGC := Aside0.mk hgc
  have hi0n : i0 < n := by omega
  clear hopen hidx hbefore hr hid hg hS hC hzi hzm hb0 hgb hgc hn hi0
  have huB := Try.underlying26
  have huS := Try.underlying29
  have eg : ∀ args w, (callFunc 67 args).run Try.prog w = .ok (.enter 67 args) w := enters_of Try.func67 (by kernel_rfl) rfl
  go_enter Try.func66, Try.ntmps66
  go_wp2_with (go_at_call 76; refine (HF.out).mono ?_; rintro e w1 ⟨rfl, hb⟩; have HB := Aside0.mk (hb.mono HB0.out); have HD := Aside0.mk (dl_move HD0.out hb); clear hb)
  go_loopg [5, 6] n (fun gg s5 s6 wr => ∃ (i j : Nat), i < j ∧ j ≤ n ∧ n - j ≤ gg ∧ s5 = .int .i64 i ∧ s6 = .int .i64 j ∧ Aside0 (Below base w wr) ∧ Aside0 (Dl base f z id g n cap wr i j))
  case atStart => exact ⟨i0, i0 + 1, by omega, by omega, by omega, rfl, by go_num, HB, HD⟩
  case round =>
    clear HD HB HF HD0
    obtain ⟨i, j, hij, hjn, hgg, rfl, rfl, HB, HD⟩ := hrel
    by_cases hlt : j < n
    · have hltz : (j : Int) < (n : Int) := by omega
      have hjt : ((j : Int)).toNat = j := Int.toNat_natCast j
      have hit : ((i : Int)).toNat = i := Int.toNat_natCast i
      have hiz : (i : Int) < (n : Int) := by omega
      obtain ⟨x, A, c, hz, hxx, hu, h0, h1, h2, _, hgl⟩ := dl_read HD.out hlt
      have HW := Aside0.mk (below_alloc (Below.refl wr.heap.size wr) (.cells #[.int .i64 x.f0, .int .i64 x.f1, .slice A x.f2.length c] 26))
      have HGW := Aside0.mk ((HW.out.cell (p := ⟨gc, 0, none⟩) (by have := HGC.out; have := HGB.out; show gc < _; omega)).trans ((HB.out.cell (p := ⟨gc, 0, none⟩) HGC.out).trans HG.out))
      have HXX := Aside0.mk hxx
      have HU := Aside0.mk hu
      have HGL := Aside0.mk hgl
      have hcall := fun b hb => del_lit x.f0 x.f1 id (.slice A x.f2.length c) rfl gc b _ HGW.out hb
      clear hxx hu hgl
      by_cases hx : x.f0 = id
      · have HC1 := Aside0.mk (hcall true (decide_eq_true hx))
        have HX := Aside0.mk hx
        clear hcall hx
        go_wp2_with (go_at_call 67; refine (HC1.out).mono ?_; rintro e w' ⟨rfl, hb'⟩; have HB3 := Aside0.mk (HW.out.trans (hb'.mono HW.out.size)))
        go_roundg (n - (j + 1))
        case measure => omega
        case rel => exact ⟨i, j + 1, by omega, by omega, by omega, rfl, by go_num, ⟨HB.out.trans (HB3.out.mono (by have := HGB.out; have := HGL.out; omega))⟩, ⟨dl_skip (dl_move HD.out HB3.out) hlt hz (by rw [HXX.out]; exact HX.out)⟩⟩
      · have HC1 := Aside0.mk (hcall false (decide_eq_false hx))
        have HX := Aside0.mk hx
        clear hcall hx
        go_wp2_with (go_at_call 67; refine (HC1.out).mono ?_; rintro e w' ⟨rfl, hb'⟩; have HB3 := Aside0.mk (HW.out.trans (hb'.mono HW.out.size)); have HDM := Aside0.mk (dl_move HD.out HB3.out); have e0 : w'.cell? ⟨wr.heap.size, 0, none⟩ = some (.int .i64 x.f0) := new_cell hb' 0 rfl; have e1 : w'.cell? ⟨wr.heap.size, 1, none⟩ = some (.int .i64 x.f1) := new_cell hb' 1 rfl; have e2 : w'.cell? ⟨wr.heap.size, 2, none⟩ = some (.slice A x.f2.length c) := new_cell hb' 2 rfl; obtain ⟨u0, s0⟩ := Option.isSome_iff_exists.1 (dl_cells HDM.out (i * 3) (by omega)).1; obtain ⟨u1, s1⟩ := Option.isSome_iff_exists.1 (dl_cells HDM.out (i * 3 + 1) (by omega)).1; obtain ⟨u2, s2⟩ := Option.isSome_iff_exists.1 (dl_cells HDM.out (i * 3 + 2) (by omega)).1; have t0 := (dl_cells HDM.out (i * 3) (by omega)).2; have t1 := (dl_cells HDM.out (i * 3 + 1) (by omega)).2; have t2 := (dl_cells HDM.out (i * 3 + 2) (by omega)).2)
        go_roundg (n - (j + 1))
        case measure => omega
        case rel => exact ⟨i + 1, j + 1, by omega, by omega, by omega, by go_num, by go_num, ⟨below_cells HGB.out [.int .i64 x.f0, .int .i64 x.f1, .slice A x.f2.length c] (i * 3) _ (HB.out.trans (HB3.out.mono (by have := HGB.out; have := HGL.out; omega)))⟩, ⟨dl_keep HDM.out hlt hz (by rw [HXX.out]; exact HX.out) HU.out⟩⟩
    · have hltz : ¬ (j : Int) < (n : Int) := by omega
      obtain rfl : j = n := by omega
      have hcl := clear_rows wr g (i * 3) (j - i) (cap - i) (by omega) (fun q hq => (dl_cells HD.out (i * 3 + q) (by omega)).1) (fun q hq => (dl_cells HD.out (i * 3 + q) (by omega)).2)
      go_wp2
      have HS := Aside0.mk (dl_end HD.out HZ.out (zrow (j - i)) (zrow_len _) (zrow_one _))
      have HFL := Aside0.mk (show ((kpt id z).map fun p => p.1) = l.filter fun x => !decide (x.f0 = id) by rw [← HZM.out, List.filter_map]; rfl)
      go_ret
      exact ⟨_, rfl, HFL.out ▸ HS.out, below_cells HGB.out _ _ _ HB.out⟩

def impl_StashDrop.f (l0 : List S26) (a1 : Int) : Option (List S26 × Bool) := if (128 : Int) < (l0.length : Int) then some ([], false) else if idxId a1 l0 0 < 0 then some ([], false) else (impl_cloneBlocks.f l0).bind fun t => some (t.filter (fun x => !decide (x.f0 = a1)), true)
set_option maxHeartbeats 4000000 in
set_option maxRecDepth 100000 in
theorem impl_StashDrop.calls (A0 : Option Addr) (c0 : Nat) (l0 : List S26) (a1 : Int) (r1 : List S26) (r2 : Bool) (w : World) (hr0 : Kd.C k26 w A0 l0.length l0) (hc0 : l0.length ≤ c0) (h : impl_StashDrop.f l0 a1 = some (r1, r2)) :
    Calls Try.prog 38 #[.slice A0 l0.length c0, .int .i64 a1] w fun e w' => ∃ v0_ : Value, e = .returned (.tuple #[v0_, .bool r2]) ∧ Kd.S k26 26 w' w.heap.size (fun _ => True) v0_ r1 ∧ Below w.heap.size w w' := by
  unfold impl_StashDrop.f at h
  have HB := Aside0.mk ((Below.refl w.heap.size w).alloc (Nat.le_refl _) (.cells #[.int .i64 a1] 3))
  have HA := Aside0.mk (show (w.alloc (.cells #[.int .i64 a1] 3)).cell? ⟨w.heap.size, 0, none⟩ = some (.int .i64 a1) from World.cell?_alloc_new w _ _ 0)
  have HS := Aside0.mk (show w.heap.size < (w.alloc (.cells #[.int .i64 a1] 3)).heap.size by simp)
  have HR := Aside0.mk hr0
  have HC := Aside0.mk hc0
  have hl63 : l0.length ≤ 9223372036854775807 := hr0.2.1
  clear hr0 hc0
  by_cases c1 : (128 : Int) < (l0.length : Int)
  · rw [if_pos c1] at h
    injection h with h
    injection h with h1 h2
    subst h1 h2
    go_enter Try.func38, Try.ntmps38
    go_wp2
    go_ret2
    exact ⟨_, rfl, Kd.S_nil _ _ _ _ _, HB.out⟩
  · rw [if_neg c1] at h
    have HI := Aside0.mk (impl_blockIndex.calls A0 c0 l0 a1 _ _ (Kd.C_below HR.out HB.out) HC.out rfl)
    by_cases c2 : idxId a1 l0 0 < 0
    · rw [if_pos c2] at h
      injection h with h
      injection h with h1 h2
      subst h1 h2
      go_enter Try.func38, Try.ntmps38
      go_wp2_with (go_at_call 51; refine (HI.out).mono ?_; rintro e w2 ⟨rfl, hb⟩; have HB2 := Aside0.mk (HB.out.trans (hb.mono HB.out.size)))
      go_ret2
      exact ⟨_, rfl, Kd.S_nil _ _ _ _ _, HB2.out⟩
    · rw [if_neg c2] at h
      obtain ⟨t, ht, h⟩ := Option.bind_eq_some_iff.mp h
      injection h with h
      injection h with h1 h2
      subst h1 h2
      obtain rfl : t = l0 := by
        unfold impl_cloneBlocks.f at ht
        split at ht
        · exact (Option.some.inj ht).symm
        · cases ht
      have HT := Aside0.mk ht
      have hpos : 0 < t.length := by
        obtain ⟨i, hi, _⟩ := idx_found a1 t 0 (by omega)
        omega
      go_enter Try.func38, Try.ntmps38
      go_wp2_with (first | (go_at_call 51; refine (HI.out).mono ?_; rintro e w2 ⟨rfl, hb⟩; have HB2 := Aside0.mk (HB.out.trans (hb.mono HB.out.size)); have HA2 := Aside0.mk ((hb.cell (p := ⟨w.heap.size, 0, none⟩) HS.out).trans HA.out); have HS2 := Aside0.mk (Nat.lt_of_lt_of_le HS.out hb.size); clear hb) | (go_at_call 52; refine (impl_cloneBlocks.calls A0 c0 t t _ (Kd.C_below HR.out HB2.out) HC.out HT.out).mono ?_; rintro e w3 ⟨v3, rfl, hs, hb⟩; obtain ⟨g3, k3, rfl, hg3⟩ := Kd.S_form hs hpos; clear hg3; have HB3 := Aside0.mk (HB2.out.trans (hb.mono HB2.out.size)); have HD3 := Aside0.mk (del_func a1 w.heap.size g3 t.length k3 _ t w3 hs HS2.out hb.size ((hb.cell (p := ⟨w.heap.size, 0, none⟩) HS2.out).trans HA2.out) (by omega)); have HSZ := Aside0.mk HB2.out.size; clear hs hb) | (go_at_call 66; refine (HD3.out).mono ?_; rintro e w4 ⟨v4, rfl, hs, hb⟩; have HS4 := Aside0.mk (Kd.S_lower hs HSZ.out); have HB4 := Aside0.mk (HB3.out.trans (hb.mono HSZ.out)); clear hs hb))
      go_ret2
      exact ⟨_, rfl, HS4.out, HB4.out⟩

/-! ### laws_heldByteS: function 33 -/
def laws_heldByteS.l0 : Nat → List Int → Int → Int → Option (Int)
  | 0, _, _, _ => none
  | k + 1, x0, x1, x5 => if x5 < (x0.length : Int) then (if 0 ≤ x5 then (if (rd x0 x5) = ((x1) % 256) then (laws_heldByteS.l0 k x0 (wrap64 (x1 + 1)) (wrap64 (x5 + 1))) else (some (-1))) else (none)) else (some x1)
def laws_heldByteS.f (k : Nat) (l0 : List Int) (a1 : Int) : Option (Int) := laws_heldByteS.l0 k l0 a1 0
theorem laws_heldByteS.mono_l : ∀ k, (∀ y0 y1 y2, LeO (laws_heldByteS.l0 k y0 y1 y2) (laws_heldByteS.l0 (k + 1) y0 y1 y2))
  | 0 => fun _ _ _ r h => by simp [laws_heldByteS.l0] at h
  | k + 1 => by
    have ih0 := laws_heldByteS.mono_l k
    · intro y0 y1 y2
      unfold laws_heldByteS.l0
      repeat' first
      | (with_reducible exact ih0 _ _ _)
      | (with_reducible exact LeO.refl _)
      | (with_reducible exact LeO.none _)
      | (with_reducible refine LeO.ite ?_ ?_)
      | (with_reducible refine LeO.bind ?_ (fun _ => ?_))
      | exact ih0 _ _ _
      | exact LeO.none _
      | refine LeO.ite ?_ ?_
      | refine LeO.bind ?_ (fun _ => ?_)
theorem laws_heldByteS.mono : ∀ a0 a1 k, LeO (laws_heldByteS.f k a0 a1) (laws_heldByteS.f (k + 1) a0 a1) := by
  intro a0 a1 k
  have ih0 := laws_heldByteS.mono_l k
  unfold laws_heldByteS.f
  repeat' first
      | (with_reducible exact ih0 _ _ _)
      | (with_reducible exact LeO.refl _)
      | (with_reducible exact LeO.none _)
      | (with_reducible refine LeO.ite ?_ ?_)
      | (with_reducible refine LeO.bind ?_ (fun _ => ?_))
      | exact ih0 _ _ _
      | exact LeO.none _
      | refine LeO.ite ?_ ?_
      | refine LeO.bind ?_ (fun _ => ?_)
set_option maxHeartbeats 8000000 in
set_option maxRecDepth 100000 in
theorem laws_heldByteS.calls (k : Nat) (A0 : Option Addr) (c0 : Nat) (l0 : List Int) (a1 : Int) (r : Int) (w : World) (hr0 : Kd.C (Kd.int .u8) w A0 l0.length l0) (hc0 : l0.length ≤ c0) (h : laws_heldByteS.f k l0 a1 = some r) :
    Calls Try.prog 33 #[.slice A0 l0.length c0, .int .i64 a1] w fun e w' => e = .returned (.int .i64 r) ∧ Drawn0 w w' := by
  have HR0 := Aside0.mk hr0
  have HC0 := Aside0.mk hc0
  clear hr0 hc0
  have H : (laws_heldByteS.l0 k l0 a1 0) = some r := h
  clear h
  have H' := Aside0.mk H
  clear H
  go_enter Try.func33, Try.ntmps33
  go_wp2
  go_loopg [1, 5] k (fun kq v1 v5 w' => ∃ (x1_1 : Int) (x5_1 : Int), v1 = .int .i64 x1_1 ∧ v5 = .int .i64 x5_1 ∧ Aside0 (laws_heldByteS.l0 kq l0 x1_1 x5_1 = some r) ∧ Aside0 (kq ≤ k) ∧ Drawn0 w w')
  case atStart => exact ⟨(a1), (0), (by first | rfl | (simp; done) | (simp [*]; done)), (by first | rfl | (simp; done) | (simp [*]; done)), H', ⟨Nat.le_refl _⟩, by repeat (first | exact Drawn0.refl _ | apply Drawn0.step)⟩
  case round =>
    clear H'
    try clear p2
    obtain ⟨x1_1, x5_1, rfl, rfl, HA, HK1, ⟨m1, rfl⟩⟩ := hrel
    cases gk with
    | zero => exact absurd HA.out (by simp [laws_heldByteS.l0])
    | succ k1 =>
      have H := HA.out
      clear HA
      simp only [laws_heldByteS.l0] at H
      by_cases c3 : x5_1 < (l0.length : Int)
      · rw [if_pos c3] at H
        have c3b0 : decide (x5_1 < (l0.length : Int)) = true := decide_eq_true c3
        clear c3
        by_cases c4 : 0 ≤ x5_1
        · rw [if_pos c4] at H
          have c4b0 : decide (0 ≤ x5_1) = true := decide_eq_true c4
          clear c4
          by_cases c5 : (rd l0 x5_1) = ((x1_1) % 256)
          · rw [if_pos c5] at H
            have c5b0 : ((rd l0 x5_1) == ((x1_1) % 256)) = true := beq_iff_eq.mpr c5
            have c5b1 : ((rd l0 x5_1) != ((x1_1) % 256)) = false := bne_eq_false_iff_eq.mpr c5
            clear c5
            have H' := Aside0.mk H
            clear H
            have p181 : 0 ≤ (x5_1 : Int) := of_decide_eq_true (by first | (with_reducible assumption) | assumption)
            have q181 : x5_1 < (l0.length : Int) := of_decide_eq_true (by first | (with_reducible assumption) | assumption)
            obtain ⟨ad181, e181, hx181_0⟩ := Kd.at_int HR0.out x5_1 p181 q181
            cases e181
            replace p181 := eq_true p181
            replace q181 := eq_true q181
            go_wp2
            go_roundg k1
            case measure => have := HK1.out; omega
            case rel => exact ⟨(wrap64 (x1_1 + 1)), (wrap64 (x5_1 + 1)), (by first | rfl | (simp; done) | (simp [*]; done)), (by first | rfl | (simp; done) | (simp [*]; done)), H', ⟨by have := HK1.out; omega⟩, by repeat (first | exact Drawn0.refl _ | apply Drawn0.step)⟩
          · rw [if_neg c5] at H
            have c5b0 : ((rd l0 x5_1) == ((x1_1) % 256)) = false := beq_eq_false_iff_ne.mpr c5
            have c5b1 : ((rd l0 x5_1) != ((x1_1) % 256)) = true := bne_iff_ne.mpr c5
            obtain rfl := Option.some.inj H
            have p181 : 0 ≤ (x5_1 : Int) := of_decide_eq_true (by first | (with_reducible assumption) | assumption)
            have q181 : x5_1 < (l0.length : Int) := of_decide_eq_true (by first | (with_reducible assumption) | assumption)
            obtain ⟨ad181, e181, hx181_0⟩ := Kd.at_int HR0.out x5_1 p181 q181
            cases e181
            replace p181 := eq_true p181
            replace q181 := eq_true q181
            go_wp2
            go_ret
            exact ⟨by first | rfl | (simp; done) | (simp [*]; done), by repeat (first | exact Drawn0.refl _ | apply Drawn0.step)⟩
        · rw [if_neg c4] at H
          exact absurd H (by simp)
      · rw [if_neg c3] at H
        have c3b0 : decide (x5_1 < (l0.length : Int)) = false := decide_eq_false c3
        clear c3
        obtain rfl := Option.some.inj H
        go_wp2
        go_ret
        exact ⟨by first | rfl | (simp; done) | (simp [*]; done), by repeat (first | exact Drawn0.refl _ | apply Drawn0.step)⟩

end Go.Proofs.Ytggfndobfpmoaaa.PFnExactStashDrop

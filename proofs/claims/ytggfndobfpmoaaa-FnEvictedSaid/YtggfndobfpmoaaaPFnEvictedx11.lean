-- Laid by a program of this session: what the print of the kit writes, and contracts of the session where the print takes no function. Lean checks it.
import Derived.Test.YtggfndobfpmoaaaPFnEvictedx0
import Derived.Test.YtggfndobfpmoaaaPFnEvictedx10
namespace Go.Proofs.Ytggfndobfpmoaaa.PFnEvicted
open Go.RowKit Go.Proofs.YtggfndobfpmoaaaW.PrintWords Go.Proofs.YtggfndobfpmoaaaW.PrintLast Go.Proofs.YtggfndobfpmoaaaW.PrintMore
attribute [local go_sem] max2_int min2_int max_two min_two max_three min_three max_four min_four   -- for this text's walks alone
set_option linter.unusedVariables false
set_option linter.unusedSimpArgs false

/-! ### impl_isStash: function 71 -/
def impl_isStash.f (k : Nat) (l0 : List (S26)) (a1 : Int) (a2 : Int) : Option (Bool) := if (l0.length : Int) ≤ 128 then ((impl_areBlocks.f k l0 a1 a2).bind fun t411 => (some t411)) else (some false)
theorem impl_isStash.mono : ∀ a0 a1 a2 k, LeO (impl_isStash.f k a0 a1 a2) (impl_isStash.f (k + 1) a0 a1 a2) := by
  intro a0 a1 a2 k
  unfold impl_isStash.f
  repeat' first | (with_reducible exact impl_areBlocks.mono _ _ _ _) | (with_reducible exact LeO.refl _) | (with_reducible refine LeO.ite ?_ ?_) | (with_reducible refine LeO.bind ?_ (fun _ => ?_))
set_option maxHeartbeats 8000000 in
set_option maxRecDepth 100000 in
theorem impl_isStash.calls (k : Nat) (A0 : Option Addr) (c0 : Nat) (l0 : List (S26)) (a1 : Int) (a2 : Int) (r : Bool) (w : World) (hr0 : Kd.C k26 w A0 l0.length l0) (hc0 : l0.length ≤ c0) (h : impl_isStash.f k l0 a1 a2 = some r) :
    Calls Try.prog 71 #[.slice A0 l0.length c0, .int .i64 a1, .int .i64 a2] w fun e w' => e = .returned (.bool r) ∧ Below w.heap.size w w' := by
 have HR0 := Aside0.mk hr0
 have HC0 := Aside0.mk hc0
 clear hr0 hc0
 have HB := Aside0.mk (Below.refl w.heap.size w)
 have H : (if (l0.length : Int) ≤ 128 then ((impl_areBlocks.f k l0 a1 a2).bind fun t411 => (some t411)) else (some false)) = some r := h
 clear h
 by_cases c4 : (l0.length : Int) ≤ 128
 ·
  rw [if_pos c4] at H
  have c4b0 : decide ((l0.length : Int) ≤ 128) = true := decide_eq_true c4
  have c4b1 : decide (l0.length ≤ 128) = true := decide_eq_true (by omega)
  clear c4
  replace H := Option.bind_eq_some_iff.mp H
  obtain ⟨t411, A50, H⟩ := H
  replace H : (some t411) = some r := H
  have A5 := Aside0.mk A50
  clear A50
  obtain rfl := Option.some.inj H
  go_enter Try.func71, Try.ntmps71
  go_wp2_with ((go_at_call 58; (with_reducible refine (impl_areBlocks.calls k _ _ l0 a1 a2 t411 _ ?side1 ?side2 A5.out).mono ?_); (case side1 => repeat (exact HR0.out)); (case side2 => exact HC0.out); rintro e w6 ⟨rfl, hb⟩; have n0_ := Aside0.mk (below_step (by repeat ((with_reducible exact HB.out))) hb); clear HB; have HB := n0_; clear n0_; (try clear hb); (try clear hb2); (try clear hk); (try clear hi)))
  go_ret
  exact ⟨by rfl, by repeat ((with_reducible exact HB.out))⟩
 rw [if_neg c4] at H
 have c4b0 : decide ((l0.length : Int) ≤ 128) = false := decide_eq_false c4
 have c4b1 : decide (l0.length ≤ 128) = false := decide_eq_false (by omega)
 clear c4
 obtain rfl := Option.some.inj H
 go_enter Try.func71, Try.ntmps71
 go_wp2
 go_ret
 exact ⟨by rfl, by repeat ((with_reducible exact HB.out))⟩

-- NOT PRINTED: function 76 (impl_Block_76)

-- NOT PRINTED: function 66 (impl_Block_66)

-- NOT PRINTED: function 78 (impl_Block_78)

-- NOT PRINTED: function 94 (bits_Len32)

-- NOT PRINTED: function 95 (bits_Len64)

/-! ### bits_Len: function 93 -/
def bits_Len.f (a0 : Int) : Option (Int) := if 0 ≤ a0 then (if a0 ≤ 18446744073709551615 then (some (Lib.bitLen a0.toNat : Int)) else (none)) else (none)
theorem bits_Len.calls (a0 : Int) (r : Int) (w : World) (h : bits_Len.f a0 = some r) :
    Calls Try.prog 93 #[.int .u64 a0] w fun e w' => e = .returned (.int .i64 r) ∧ Drawn0 w w' := by
 unfold bits_Len.f at h
 have h0 : 0 ≤ a0 := by
  by_cases c : 0 ≤ a0
  ·
   exact c
  rw [if_neg c] at h; cases h
 rw [if_pos h0] at h
 have h1 : a0 ≤ 18446744073709551615 := by
  by_cases c : a0 ≤ 18446744073709551615
  ·
   exact c
  rw [if_neg c] at h; cases h
 rw [if_pos h1] at h
 obtain rfl := Option.some.inj h
 refine (Go.Proofs.Ytggfndobfpmoaaa.Hands.bits_Len a0 w h0 h1).mono ?_
 rintro e w' ⟨rfl, rfl⟩
 exact ⟨rfl, Drawn0.refl _⟩

/-! ### impl_meet: function 91 -/
def impl_meet.f (a0 : Int) (a1 : Int) (a2 : Int) : Option (Int) := (bits_Len.f (IntKind.u64.wrap (Go.bits .xor .i64 a1 a2))).bind fun t412 => (some (wrap64 (a0 - t412)))
set_option maxHeartbeats 8000000 in
set_option maxRecDepth 100000 in
theorem impl_meet.calls (a0 : Int) (a1 : Int) (a2 : Int) (r : Int) (w : World) (h : impl_meet.f a0 a1 a2 = some r) :
    Calls Try.prog 91 #[.int .i64 a0, .int .i64 a1, .int .i64 a2] w fun e w' => e = .returned (.int .i64 r) ∧ Drawn0 w w' := by
 have H : ((bits_Len.f (IntKind.u64.wrap (Go.bits .xor .i64 a1 a2))).bind fun t412 => (some (wrap64 (a0 - t412)))) = some r := h
 clear h
 replace H := Option.bind_eq_some_iff.mp H
 obtain ⟨t412, A40, H⟩ := H
 replace H : (some (wrap64 (a0 - t412))) = some r := H
 have A4 := Aside0.mk A40
 clear A40
 obtain rfl := Option.some.inj H
 go_enter Try.func91, Try.ntmps91
 go_wp2_with (((with_reducible refine gate_callee (f := 93) rfl ?_); refine goesL_ (some 12) rfl rfl Try.func93 (by kernel_rfl) rfl #[.int .u64 (IntKind.u64.wrap (Go.bits .xor .i64 a1 a2))] rfl (by (try simp only [List.map_toArray, List.map_cons, List.map_nil]); rfl) ?_; (with_reducible refine (bits_Len.calls (IntKind.u64.wrap (Go.bits .xor .i64 a1 a2)) t412 _ A4.out).mono ?_); rintro e w' ⟨rfl, ⟨nd, rfl⟩⟩; refine ⟨_, rfl, ?_⟩))
 go_ret
 exact ⟨by rfl, by repeat (first | exact Drawn0.refl _ | apply Drawn0.step)⟩

end Go.Proofs.Ytggfndobfpmoaaa.PFnEvicted

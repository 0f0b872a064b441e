/- The row of the law FnExactBatchCapped: for every input the call returns true, and each argument reads afterwards as it read before. Conditions: none. -/
import Derived.Test.YtljmhhadclgegaaRows
import Derived.Test.YtljmhhadclgegaaPFnExactBatchCappedx12
import Derived.Test.YtljmhhadclgegaaOpenFnExactBatchCapped
import Derived.Test.YtljmhhadclgegaaPureFnExactBatchCapped
import Derived.WalkKit
import Derived.ProofKit
import Derived.OpenShut
import Derived.ShutString
import Derived.ChangeOld
import Derived.Below
import Derived.SizedLaws
import Derived.Carry
namespace Go.Proofs.Ytljmhhadclgegaa.fnExactBatchCapped
open Go.ChangeShapes Go.WideShapes Go.ChangeAt Go.RowKit
open Go.ChangeMaps (open_string shut_string)
open Go.Proofs.YtljmhhadclgegaaW.PrintWords Go.Proofs.Ytljmhhadclgegaa.RowOpen Go.Proofs.Ytljmhhadclgegaa.PFnExactBatchCapped Go.Proofs.Ytljmhhadclgegaa.OpenFnExactBatchCapped
set_option linter.unusedVariables false
theorem own : ownKnob Try.prog.godebug = none := by kernel_rfl
theorem laidOut : laidOutB Try.prog = true := by kernel_rfl
set_option maxRecDepth 100000 in
theorem lifted (os : Os) (started : os.Started) (H : Type) (enc : TypeId × Value → H) :
    ReturnsInHanded {} Try.checked os 7 .any (Rows.fnExactBatchCappedSpec.pre6 enc Try.prog Try.f7 Rows.fnExactBatchCappedRow.domain false) (Rows.fnExactBatchCappedSpec.post enc Try.prog Try.f7 false true false false) := by
  refine returnsInHanded_of_change_sized (C := Try.checked) own started (by kernel_rfl) Try.func7
    (ChangeSpec.witness6 (enc := enc) (C := Try.checked) false ⟨#[], #[.string ByteArray.empty, .agg #[.int .i64 0, .slice none 0 0, .slice none 0 0]], []⟩ 8 (by kernel_rfl) (by kernel_rfl) (by kernel_rfl) (by kernel_rfl)) ?_
  intro W base args ds gs before hval0 hW hcnd hsz0 _
  have hval : ∀ (j : Nat) t v, Try.f7.params[j]? = some t → args[j]? = some v → Value.okWide Try.prog W .any base t v := hval0
  have hW' := hW
  obtain ⟨p, q, hA0, hV, rfl, hfz, hnd⟩ := hW
  have hA : DataW.TrodAll enc Try.prog W 0 (fun _ => true) true Try.f7.params.toList args.toList ds p := hA0
  rw [Try.params7] at hA hval
  obtain ⟨v0, vs0, d0, ds0, p0, q0, hargs, rfl, rfl, h0, r0⟩ := trodAll_cons hA
  obtain ⟨v1, vs1, d1, ds1, p1, q1, rfl, rfl, rfl, h1, r1⟩ := trodAll_cons r0
  obtain ⟨rfl, rfl, rfl⟩ := trodAll_nil r1
  obtain rfl : args = #[v0, v1] := by cases args; simp_all
  obtain ⟨rfl, rfl⟩ := trodVars_none hV
  obtain ⟨a0, rfl, rfl, rfl, w0⟩ := open_string Try.underlying9 (hval 0 9 v0 rfl rfl) h0
  obtain ⟨cs1, rfl, _⟩ := okWide_struct Try.underlying45 (hval 1 45 v1 rfl rfl)
  have k1 := h1
  have lt1 : ∀ x ∈ p1, x.block < W.heap.size := by obtain ⟨m, hm⟩ := k1; exact DataW.trod_lt m _ _ _ hm
  obtain ⟨x1, hK1, w1⟩ : ∃ x, k45.K W x cs1.toList ∧ ok45 x := by
    obtain ⟨fuel, hf⟩ := h1
    exact opens45 H enc W fuel _ _ hf
  obtain ⟨_, _, e1, rfl, ⟨_, _, rfl, ⟨A1_1, c1_1, rfl, hc1_1, hr1_1⟩, ⟨A1_2, c1_2, rfl, hc1_2, hr1_2⟩⟩⟩ := hK1
  obtain rfl : cs1 = #[.int .i64 x1.f0, .slice A1_1 x1.f1.length c1_1, .slice A1_2 x1.f2.length c1_2] := Array.toList_inj.1 e1
  clear hA0 hval0 hsz0
  obtain ⟨k, hP⟩ := Pure.FnExactBatchCapped a0 w0 x1 w1
  refine (laws_FnExactBatchCapped.calls (k := k) (a0 := a0) (a1_0 := x1.f0) (A1_1 := A1_1) (c1_1 := c1_1) (l1_1 := x1.f1) (A1_2 := A1_2) (c1_2 := c1_2) (l1_2 := x1.f2) (hr1_1 := hr1_1) (hc1_1 := hc1_1) (hr1_2 := hr1_2) (hc1_2 := hc1_2) (r := true) (w := W) (h := hP)).mono fun e W' ⟨he, bel0⟩ => ?_
  have bel : Below W.heap.size W W' := bel0
  subst he
  exact ⟨_, rfl, _, _, _, [], _, [], hW', trodAll_mk1 (shut_bool Try.underlying4 _), (trodAll_cons_mk (shut_string Try.underlying9 w0) (trodAll_cons_mk (Below.trod laidOut (by kernel_rfl) (of_decide_eq_true (by kernel_rfl)) k1 bel lt1) trodAll_mk0)), rfl, bel.frame _, fun h => by cases h⟩
theorem over : Rows.fnExactBatchCappedRow.holds Try.pinned (OpenSpec.ofChange Rows.fnExactBatchCappedSpec) :=
  OpenClaim.holds_of_wide 7 Try.f7 rfl rfl rfl rfl rfl rfl rfl ⟨rfl, rfl, rfl, rfl, rfl⟩ rfl rfl rfl rfl rfl (by kernel_rfl) Try.func7 (by kernel_rfl)
    (of_decide_eq_true (by kernel_rfl)) (by unfold Func.isWrapper; first | (rw [if_pos (by decide +kernel)]; kernel_rfl) | (rw [if_neg (by decide +kernel)]; exact ⟨rfl, rfl⟩))
    (fun os started H enc _ => lifted os started H enc)
theorem proved : Rows.FnExactBatchCappedSaid := over
end Go.Proofs.Ytljmhhadclgegaa.fnExactBatchCapped
namespace Go.Proofs.Ytljmhhadclgegaa
/-- The row, under a short name, for the claim. -/
theorem fnExactBatchCapped_holds : Rows.FnExactBatchCappedSaid := fnExactBatchCapped.proved
end Go.Proofs.Ytljmhhadclgegaa

/-
  The law FnExactFrameFor of the given program: called with any arguments that can be read it returns true and leaves them as they were. No condition is added.
-/
import Derived.Test.YtmgjglegooehbaaRows
import Derived.Test.YtmgjglegooehbaaZCFx11
import Derived.Test.YtmgjglegooehbaaZCFx12
import Derived.WalkKit
import Derived.ProofKit
import Derived.OpenShut
import Derived.ShutString
import Derived.ChangeOld
import Derived.Below
import Derived.SizedLaws
import Derived.Carry
namespace Go.Proofs.Ytmgjglegooehbaa.fnExactFrameFor
open Go.ChangeShapes Go.WideShapes Go.ChangeAt Go.RowKit Go.Proofs.Ytmgjglegooehbaa.CF Go.Proofs.YtmgjglegooehbaaW.PrintWords
open Go.ChangeMaps (open_string shut_string)
set_option linter.unusedVariables false
theorem own : ownKnob Try.prog.godebug = none := by kernel_rfl
theorem laidOut : laidOutB Try.prog = true := by kernel_rfl
set_option maxRecDepth 100000 in
theorem lifted (os : Os) (started : os.Started) (H : Type) (enc : TypeId × Value → H) :
    ReturnsInHanded {} Try.checked os 3 .any (Rows.fnExactFrameForSpec.pre6 enc Try.prog Try.f3 Rows.fnExactFrameForRow.domain false) (Rows.fnExactFrameForSpec.post enc Try.prog Try.f3 false true false false) := by
  refine returnsInHanded_of_change_sized (C := Try.checked) own started (by kernel_rfl) Try.func3
    (ChangeSpec.witness6 (enc := enc) (C := Try.checked) false ⟨#[], #[.agg #[.int .i64 0, .int .i64 0, .int .i64 0, .slice none 0 0], .agg #[.int .i64 0, .int .i64 0, .int .i64 0, .int .i64 0, .bool false, .bool false]], []⟩ 8 (by kernel_rfl) (by kernel_rfl) (by kernel_rfl) (by kernel_rfl)) ?_
  intro W base args ds gs before hval0 hW hcnd hsz0 _
  have hval : ∀ (j : Nat) t v, Try.f3.params[j]? = some t → args[j]? = some v → Value.okWide Try.prog W .any base t v := hval0
  have hW' := hW
  obtain ⟨p, q, hA0, hV, rfl, hfz, hnd⟩ := hW
  have hA : DataW.TrodAll enc Try.prog W 0 (fun _ => true) true Try.f3.params.toList args.toList ds p := hA0
  rw [Try.params3] at hA hval
  obtain ⟨v0, vs0, d0, ds0, p0, q0, hargs, rfl, rfl, h0, r0⟩ := trodAll_cons hA
  obtain ⟨v1, vs1, d1, ds1, p1, q1, rfl, rfl, rfl, h1, r1⟩ := trodAll_cons r0
  obtain ⟨rfl, rfl, rfl⟩ := trodAll_nil r1
  obtain rfl : args = #[v0, v1] := by cases args; simp_all
  obtain ⟨rfl, rfl⟩ := trodVars_none hV
  have k0 := h0
  have lt0 : ∀ x ∈ p0, x.block < W.heap.size := by obtain ⟨m, hm⟩ := k0; exact DataW.trod_lt m _ _ _ hm
  obtain ⟨cs0, b0, rfl, hk0, hq0⟩ := Op.arg_struct Try.underlying24 (hval 0 24 v0 rfl rfl) op24 h0
  obtain ⟨A0_3, c0_3, rfl, hl0_3, hC0_3⟩ := k24_open hk0
  have k1 := h1
  have lt1 : ∀ x ∈ p1, x.block < W.heap.size := by obtain ⟨m, hm⟩ := k1; exact DataW.trod_lt m _ _ _ hm
  obtain ⟨cs1, b1, rfl, hk1, hq1⟩ := Op.arg_struct Try.underlying26 (hval 1 26 v1 rfl rfl) op26 h1
  obtain rfl := k26_open hk1
  clear hA0 hval0 hsz0
  refine (laws_FnExactFrameFor.walk pure_FrameFor b0.f0 b0.f1 b0.f2 A0_3 c0_3 b0.f3 b1.f0 b1.f1 b1.f2 b1.f3 b1.f4 b1.f5 W hC0_3 hl0_3 hq0.1 hq0.2.1 hq0.2.2.1 hq0.2.2.2 hq1.1 hq1.2.1 hq1.2.2.1 hq1.2.2.2.1).mono fun e W' ⟨he, bel⟩ => ?_
  subst he
  exact ⟨_, rfl, _, _, _, [], _, [], hW', trodAll_mk1 (shut_bool Try.underlying4 _), (trodAll_cons_mk (Below.trod laidOut (by kernel_rfl) (of_decide_eq_true (by kernel_rfl)) k0 bel lt0) (trodAll_cons_mk (Below.trod laidOut (by kernel_rfl) (of_decide_eq_true (by kernel_rfl)) k1 bel lt1) trodAll_mk0)), rfl, bel.frame _, fun h => by cases h⟩
theorem over : Rows.fnExactFrameForRow.holds Try.pinned (OpenSpec.ofChange Rows.fnExactFrameForSpec) :=
  OpenClaim.holds_of_wide 3 Try.f3 rfl rfl rfl rfl rfl rfl rfl ⟨rfl, rfl, rfl, rfl, rfl⟩ rfl rfl rfl rfl rfl (by kernel_rfl) Try.func3 (by kernel_rfl)
    (of_decide_eq_true (by kernel_rfl)) (by unfold Func.isWrapper; first | (rw [if_pos (by decide +kernel)]; kernel_rfl) | (rw [if_neg (by decide +kernel)]; exact ⟨rfl, rfl⟩))
    (fun os started H enc _ => lifted os started H enc)
theorem proved : Rows.FnExactFrameForSaid := over
end Go.Proofs.Ytmgjglegooehbaa.fnExactFrameFor
namespace Go.Proofs.Ytmgjglegooehbaa
/-- The row, under a short name, for the claim. -/
theorem fnExactFrameFor_holds : Rows.FnExactFrameForSaid := fnExactFrameFor.proved
#print axioms fnExactFrameFor_holds
end Go.Proofs.Ytmgjglegooehbaa

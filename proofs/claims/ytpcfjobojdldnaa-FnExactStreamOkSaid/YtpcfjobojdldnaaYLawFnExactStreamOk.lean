/-
  The law FnExactStreamOk of the given program: called with any arguments that can be read it returns true and leaves them as they were. No condition is added.
-/
import Derived.Test.YtpcfjobojdldnaaRows
import Derived.Test.YtpcfjobojdldnaaYCVx22
import Derived.Test.YtpcfjobojdldnaaYCVx22
import Derived.WalkKit
import Derived.ProofKit
import Derived.OpenShut
import Derived.ShutString
import Derived.ChangeOld
import Derived.Below
import Derived.SizedLaws
import Derived.Carry
namespace Go.Proofs.Ytpcfjobojdldnaa.fnExactStreamOk
open Go.ChangeShapes Go.WideShapes Go.ChangeAt Go.RowKit Go.Proofs.Ytpcfjobojdldnaa.CV Go.Proofs.YtpcfjobojdldnaaW.PrintWords
open Go.ChangeMaps (open_string shut_string)
set_option linter.unusedVariables false
theorem own : ownKnob Try.prog.godebug = none := by kernel_rfl
theorem laidOut : laidOutB Try.prog = true := by kernel_rfl
set_option maxRecDepth 100000 in
theorem lifted (os : Os) (started : os.Started) (H : Type) (enc : TypeId × Value → H) :
    ReturnsInHanded {} Try.checked os 3 .any (Rows.fnExactStreamOkSpec.pre6 enc Try.prog Try.f3 Rows.fnExactStreamOkRow.domain false) (Rows.fnExactStreamOkSpec.post enc Try.prog Try.f3 false true false false) := by
  refine returnsInHanded_of_change_sized (C := Try.checked) own started (by kernel_rfl) Try.func3
    (ChangeSpec.witness6 (enc := enc) (C := Try.checked) false ⟨#[], #[.agg #[.int .i64 0, .int .i64 0, .int .i64 0, .int .i64 0, .slice none 0 0, .slice none 0 0, .slice none 0 0, .int .i64 0, .slice none 0 0, .slice none 0 0]], []⟩ 8 (by kernel_rfl) (by kernel_rfl) (by kernel_rfl) (by kernel_rfl)) ?_
  intro W base args ds gs before hval0 hW hcnd hsz0 _
  have hval : ∀ (j : Nat) t v, Try.f3.params[j]? = some t → args[j]? = some v → Value.okWide Try.prog W .any base t v := hval0
  have hW' := hW
  obtain ⟨p, q, hA0, hV, rfl, hfz, hnd⟩ := hW
  have hA : DataW.TrodAll enc Try.prog W 0 (fun _ => true) true Try.f3.params.toList args.toList ds p := hA0
  rw [Try.params3] at hA hval
  obtain ⟨v0, vs0, d0, ds0, p0, q0, hargs, rfl, rfl, h0, r0⟩ := trodAll_cons hA
  obtain ⟨rfl, rfl, rfl⟩ := trodAll_nil r0
  obtain rfl : args = #[v0] := by cases args; simp_all
  obtain ⟨rfl, rfl⟩ := trodVars_none hV
  have k0 := h0
  have lt0 : ∀ x ∈ p0, x.block < W.heap.size := by obtain ⟨m, hm⟩ := k0; exact DataW.trod_lt m _ _ _ hm
  obtain ⟨cs0, b0, rfl, hk0, hq0⟩ := Op.arg_struct Try.underlying32 (hval 0 32 v0 rfl rfl) op32 h0
  obtain ⟨A0_4, c0_4, A0_5, c0_5, A0_6, c0_6, A0_8, c0_8, A0_9, c0_9, rfl, hl0_4, hC0_4, hl0_5, hC0_5, hl0_6, hC0_6, hl0_8, hC0_8, hl0_9, hC0_9⟩ := k32_open hk0
  clear hA0 hval0 hsz0
  refine (laws_FnExactStreamOk.walk pure_StreamOk b0.f0.f0 b0.f0.f1 b0.f0.f2 b0.f0.f3 A0_4 c0_4 b0.f0.f4 A0_5 c0_5 b0.f1 A0_6 c0_6 b0.f2.f0 b0.f3 A0_8 c0_8 b0.f4 A0_9 c0_9 b0.f5 W hC0_4 hl0_4 hC0_5 hl0_5 hC0_6 hl0_6 hC0_8 hl0_8 hC0_9 hl0_9 hq0.1.1 hq0.1.2.1 hq0.1.2.2.1 hq0.1.2.2.2.1 hq0.1.2.2.2.2 hq0.2.1 hq0.2.2.1 hq0.2.2.2.1 hq0.2.2.2.2.1 hq0.2.2.2.2.2).mono fun e W' ⟨he, bel⟩ => ?_
  subst he
  exact ⟨_, rfl, _, _, _, [], _, [], hW', trodAll_mk1 (shut_bool Try.underlying4 _), (trodAll_cons_mk (Below.trod laidOut (by kernel_rfl) (of_decide_eq_true (by kernel_rfl)) k0 bel lt0) trodAll_mk0), rfl, bel.frame _, fun h => by cases h⟩
theorem over : Rows.fnExactStreamOkRow.holds Try.pinned (OpenSpec.ofChange Rows.fnExactStreamOkSpec) :=
  OpenClaim.holds_of_wide 3 Try.f3 rfl rfl rfl rfl rfl rfl rfl ⟨rfl, rfl, rfl, rfl, rfl⟩ rfl rfl rfl rfl rfl (by kernel_rfl) Try.func3 (by kernel_rfl)
    (of_decide_eq_true (by kernel_rfl)) (by unfold Func.isWrapper; first | (rw [if_pos (by decide +kernel)]; kernel_rfl) | (rw [if_neg (by decide +kernel)]; exact ⟨rfl, rfl⟩))
    (fun os started H enc _ => lifted os started H enc)
theorem proved : Rows.FnExactStreamOkSaid := over
end Go.Proofs.Ytpcfjobojdldnaa.fnExactStreamOk
namespace Go.Proofs.Ytpcfjobojdldnaa
/-- The row, under a short name, for the claim. -/
theorem fnExactStreamOk_holds : Rows.FnExactStreamOkSaid := fnExactStreamOk.proved
#print axioms fnExactStreamOk_holds
end Go.Proofs.Ytpcfjobojdldnaa

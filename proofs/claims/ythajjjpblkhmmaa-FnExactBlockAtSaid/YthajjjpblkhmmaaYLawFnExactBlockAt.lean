/-
  The law FnExactBlockAt of the given program: called with any arguments that can be read it returns true and leaves them as they were. No condition is added.
-/
import Derived.Test.YthajjjpblkhmmaaRows
import Derived.Test.YthajjjpblkhmmaaYCBx14
import Derived.Test.YthajjjpblkhmmaaYCBx15
import Derived.WalkKit
import Derived.ProofKit
import Derived.OpenShut
import Derived.ShutString
import Derived.ChangeOld
import Derived.Below
import Derived.SizedLaws
import Derived.Carry
namespace Go.Proofs.Ythajjjpblkhmmaa.fnExactBlockAt
open Go.ChangeShapes Go.WideShapes Go.ChangeAt Go.RowKit Go.Proofs.Ythajjjpblkhmmaa.CB Go.Proofs.YthajjjpblkhmmaaW.PrintWords
open Go.ChangeMaps (open_string shut_string)
set_option linter.unusedVariables false
theorem own : ownKnob Try.prog.godebug = none := by kernel_rfl
theorem laidOut : laidOutB Try.prog = true := by kernel_rfl
set_option maxRecDepth 100000 in
theorem lifted (os : Os) (started : os.Started) (H : Type) (enc : TypeId × Value → H) :
    ReturnsInHanded {} Try.checked os 14 .any (Rows.fnExactBlockAtSpec.pre6 enc Try.prog Try.f14 Rows.fnExactBlockAtRow.domain false) (Rows.fnExactBlockAtSpec.post enc Try.prog Try.f14 false true false false) := by
  refine returnsInHanded_of_change_sized (C := Try.checked) own started (by kernel_rfl) Try.func14
    (ChangeSpec.witness6 (enc := enc) (C := Try.checked) false ⟨#[], #[.agg #[.int .i64 0, .int .i64 0, .int .i64 0, .int .i64 0, .slice none 0 0], .agg #[.slice none 0 0], .agg #[.int .i64 0, .int .i64 0, .int .i64 0]], []⟩ 8 (by kernel_rfl) (by kernel_rfl) (by kernel_rfl) (by kernel_rfl)) ?_
  intro W base args ds gs before hval0 hW hcnd hsz0 _
  have hval : ∀ (j : Nat) t v, Try.f14.params[j]? = some t → args[j]? = some v → Value.okWide Try.prog W .any base t v := hval0
  have hW' := hW
  obtain ⟨p, q, hA0, hV, rfl, hfz, hnd⟩ := hW
  have hA : DataW.TrodAll enc Try.prog W 0 (fun _ => true) true Try.f14.params.toList args.toList ds p := hA0
  rw [Try.params14] at hA hval
  obtain ⟨v0, vs0, d0, ds0, p0, q0, hargs, rfl, rfl, h0, r0⟩ := trodAll_cons hA
  obtain ⟨v1, vs1, d1, ds1, p1, q1, rfl, rfl, rfl, h1, r1⟩ := trodAll_cons r0
  obtain ⟨v2, vs2, d2, ds2, p2, q2, rfl, rfl, rfl, h2, r2⟩ := trodAll_cons r1
  obtain ⟨rfl, rfl, rfl⟩ := trodAll_nil r2
  obtain rfl : args = #[v0, v1, v2] := by cases args; simp_all
  obtain ⟨rfl, rfl⟩ := trodVars_none hV
  have k0 := h0
  have lt0 : ∀ x ∈ p0, x.block < W.heap.size := by obtain ⟨m, hm⟩ := k0; exact DataW.trod_lt m _ _ _ hm
  obtain ⟨cs0, b0, rfl, hk0, hq0⟩ := Op.arg_struct Try.underlying55 (hval 0 55 v0 rfl rfl) op55 h0
  obtain ⟨A0_4, c0_4, rfl, hl0_4, hC0_4⟩ := k55_open hk0
  have k1 := h1
  have lt1 : ∀ x ∈ p1, x.block < W.heap.size := by obtain ⟨m, hm⟩ := k1; exact DataW.trod_lt m _ _ _ hm
  obtain ⟨cs1, b1, rfl, hk1, hq1⟩ := Op.arg_struct Try.underlying72 (hval 1 72 v1 rfl rfl) op72 h1
  obtain ⟨A1_0, c1_0, rfl, hl1_0, hC1_0⟩ := k72_open hk1
  have k2 := h2
  have lt2 : ∀ x ∈ p2, x.block < W.heap.size := by obtain ⟨m, hm⟩ := k2; exact DataW.trod_lt m _ _ _ hm
  obtain ⟨cs2, b2, rfl, hk2, hq2⟩ := Op.arg_struct Try.underlying85 (hval 2 85 v2 rfl rfl) op85 h2
  obtain rfl := k85_open hk2
  clear hA0 hval0 hsz0
  refine (laws_FnExactBlockAt.walk pure_BlockAt b0.f0 b0.f1 b0.f2 b0.f3 A0_4 c0_4 b0.f4 A1_0 c1_0 b1.f0 b2.f0 b2.f1 b2.f2 W hC0_4 hl0_4 hC1_0 hl1_0 hq0.1 hq0.2.1 hq0.2.2.1 hq0.2.2.2.1 hq0.2.2.2.2 hq1 hq2.1 hq2.2.1 hq2.2.2).mono fun e W' ⟨he, bel⟩ => ?_
  subst he
  exact ⟨_, rfl, _, _, _, [], _, [], hW', trodAll_mk1 (shut_bool Try.underlying4 _), (trodAll_cons_mk (Below.trod laidOut (by kernel_rfl) (of_decide_eq_true (by kernel_rfl)) k0 bel lt0) (trodAll_cons_mk (Below.trod laidOut (by kernel_rfl) (of_decide_eq_true (by kernel_rfl)) k1 bel lt1) (trodAll_cons_mk (Below.trod laidOut (by kernel_rfl) (of_decide_eq_true (by kernel_rfl)) k2 bel lt2) trodAll_mk0))), rfl, bel.frame _, fun h => by cases h⟩
theorem over : Rows.fnExactBlockAtRow.holds Try.pinned (OpenSpec.ofChange Rows.fnExactBlockAtSpec) :=
  OpenClaim.holds_of_wide 14 Try.f14 rfl rfl rfl rfl rfl rfl rfl ⟨rfl, rfl, rfl, rfl, rfl⟩ rfl rfl rfl rfl rfl (by kernel_rfl) Try.func14 (by kernel_rfl)
    (of_decide_eq_true (by kernel_rfl)) (by unfold Func.isWrapper; first | (rw [if_pos (by decide +kernel)]; kernel_rfl) | (rw [if_neg (by decide +kernel)]; exact ⟨rfl, rfl⟩))
    (fun os started H enc _ => lifted os started H enc)
theorem proved : Rows.FnExactBlockAtSaid := over
end Go.Proofs.Ythajjjpblkhmmaa.fnExactBlockAt
namespace Go.Proofs.Ythajjjpblkhmmaa
/-- The row, under a short name, for the claim. -/
theorem fnExactBlockAt_holds : Rows.FnExactBlockAtSaid := fnExactBlockAt.proved
#print axioms fnExactBlockAt_holds
end Go.Proofs.Ythajjjpblkhmmaa

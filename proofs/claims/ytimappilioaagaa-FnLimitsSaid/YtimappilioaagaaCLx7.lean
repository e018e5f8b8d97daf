/- Functions that a law of this seat reaches: written by a program of this session (wip/xprint.py), and by hand. -/
import Derived.Test.YtimappilioaagaaCLx0
import Derived.Test.YtimappilioaagaaCLx1
import Derived.Test.YtimappilioaagaaCLx2
import Derived.Test.YtimappilioaagaaCLx3
import Derived.Test.YtimappilioaagaaCLx5
import Derived.Test.YtimappilioaagaaCLx6
namespace Go.Proofs.Ytimappilioaagaa.CL
open Go.RowKit Go.Proofs.Ytimappilioaagaa.B Go.Proofs.YtimappilioaagaaW.PrintWords Go.Proofs.YtimappilioaagaaW.PrintLast Go.Proofs.YtimappilioaagaaW.PrintMore
attribute [local go_sem] max2_int min2_int max_two min_two max_three min_three max_four min_four   -- for this text's walks alone
set_option linter.unusedVariables false
set_option linter.unusedSimpArgs false

/-! ### laws_FnLimits: function 8 -/
mutual
def laws_FnLimits.l0 : Nat → Int → Bool → List (S61) → Option (Bool)
  | 0, _, _, _ => none
  | k + 1, x3, x4, x5 => if (x5.length : Int) < (wrap64 (300 + x3)) then (if x5.length < 4398046511104 then (laws_FnLimits.l0 k x3 x4 (x5 ++ [(⟨9, ([] : List Int)⟩ : S61)])) else (none)) else ((impl_SegsOk.f k x5).bind fun t201 => (some (t201 == x4)))
def laws_FnLimits.l1 : Nat → Int → Bool → List Int → Int → Option (Bool)
  | 0, _, _, _, _ => none
  | k + 1, x3, x4, x9, x10 => if x10 < 64 then (if 0 ≤ x10 then (if x10 < (x9.length : Int) then (laws_FnLimits.l1 k x3 x4 (x9.set (x10 : Int).toNat 1023) (wrap64 (x10 + 1))) else (none)) else (none)) else (if 7 < (x9.length : Int) then ((impl_TableOk.f k (x9.set (7 : Int).toNat (wrap64 (1023 + x3)))).bind fun t242 => (some (t242 == x4))) else (none))
end
def laws_FnLimits.f (k : Nat) (l0 : List Int) : Option (Bool) := (laws_big.f l0).bind fun t188 => (if t188 = true then (some true) else ((laws_pick.f k l0 1 2).bind fun t189 => ((laws_pick.f k l0 0 8).bind fun t190 => (if t190 = 0 then ((impl_FieldsOk.f k (([(⟨wrap64 (16 + t189), 0⟩ : S57)] : List (S57)))).bind fun t194 => (some (t194 == (t189 == 0)))) else (if t190 = 1 then (laws_FnLimits.l0 k t189 (t189 == 0) (([] : List (S61)))) else (if t190 = 2 then (if 0 ≤ (wrap64 (20000 + t189)) then (if (wrap64 (20000 + t189) : Int).toNat ≤ 281474976710656 then ((impl_SegsOk.f k (([(⟨9, (List.replicate (wrap64 (20000 + t189) : Int).toNat 0)⟩ : S61)] : List (S61)))).bind fun t208 => (some (t208 == (t189 == 0)))) else (none)) else (none)) else (if t190 = 3 then ((impl_FrameOk.f k 8 (wrap64 (256 + t189)) 64 0 (([(⟨0, 1, 1, 0⟩ : S65)] : List (S65)))).bind fun t212 => (some (t212 == (t189 == 0)))) else (if t190 = 4 then ((impl_FrameOk.f k 12 128 (wrap64 (128 + t189)) 0 (([(⟨0, 4, 2, 0⟩ : S65), (⟨1, 1, 2, 0⟩ : S65)] : List (S65)))).bind fun t216 => (some (t216 == (t189 == 0)))) else (if t190 = 5 then (if 64 ≤ 35184372088832 then ((some (List.replicate 64 0 : List Int)).bind fun y221 => (if 9 < (y221.length : Int) then ((impl_CoefsOk.f k 8 8 8 0 (([(⟨0, 1, 1, 0⟩ : S65)] : List (S65))) (([(([(y221.set (9 : Int).toNat (wrap64 ((-16383) - t189)))] : List (List Int)))] : List (List (List Int))))).bind fun t231 => (some (t231 == (t189 == 0)))) else (none))) else (none)) else (if t190 = 6 then (if 0 ≤ (wrap64 (256 + t189)) then (if (wrap64 (256 + t189) : Int).toNat ≤ 35184372088832 then ((some (List.replicate (wrap64 (256 + t189) : Int).toNat 0 : List Int)).bind fun y232 => (if 0 < (y232.length : Int) then ((impl_LensOk.f k (y232.set (0 : Int).toNat 1)).bind fun t236 => (some (t236 == (t189 == 0)))) else (none))) else (none)) else (none)) else (if 64 ≤ 35184372088832 then (laws_FnLimits.l1 k t189 (t189 == 0) (List.replicate 64 0) 0) else (none))))))))))))
theorem laws_FnLimits.mono_l : ∀ k, (∀ y0 y1 y2, LeO (laws_FnLimits.l0 k y0 y1 y2) (laws_FnLimits.l0 (k + 1) y0 y1 y2)) ∧ (∀ y0 y1 y2 y3, LeO (laws_FnLimits.l1 k y0 y1 y2 y3) (laws_FnLimits.l1 (k + 1) y0 y1 y2 y3))
  | 0 => ⟨fun _ _ _ r h => by simp [laws_FnLimits.l0] at h, fun _ _ _ _ r h => by simp [laws_FnLimits.l1] at h⟩
  | k + 1 => by
    obtain ⟨ih0, ih1⟩ := laws_FnLimits.mono_l k
    refine ⟨?_, ?_⟩
    · intro y0 y1 y2
      unfold laws_FnLimits.l0
      repeat' first
      | (with_reducible exact ih0 _ _ _)
      | (with_reducible exact ih1 _ _ _ _)
      | (with_reducible exact impl_CoefsOk.mono _ _ _ _ _ _ _)
      | (with_reducible exact impl_FieldsOk.mono _ _)
      | (with_reducible exact impl_FrameOk.mono _ _ _ _ _ _)
      | (with_reducible exact impl_LensOk.mono _ _)
      | (with_reducible exact impl_SegsOk.mono _ _)
      | (with_reducible exact impl_TableOk.mono _ _)
      | (with_reducible exact laws_pick.mono _ _ _ _)
      | (with_reducible exact LeO.refl _)
      | (with_reducible exact LeO.none _)
      | (with_reducible refine LeO.ite ?_ ?_)
      | (with_reducible refine LeO.bind ?_ (fun _ => ?_))
      | exact ih0 _ _ _
      | exact ih1 _ _ _ _
      | exact impl_CoefsOk.mono _ _ _ _ _ _ _
      | exact impl_FieldsOk.mono _ _
      | exact impl_FrameOk.mono _ _ _ _ _ _
      | exact impl_LensOk.mono _ _
      | exact impl_SegsOk.mono _ _
      | exact impl_TableOk.mono _ _
      | exact laws_pick.mono _ _ _ _
      | exact LeO.none _
      | refine LeO.ite ?_ ?_
      | refine LeO.bind ?_ (fun _ => ?_)
    · intro y0 y1 y2 y3
      unfold laws_FnLimits.l1
      repeat' first
      | (with_reducible exact ih0 _ _ _)
      | (with_reducible exact ih1 _ _ _ _)
      | (with_reducible exact impl_CoefsOk.mono _ _ _ _ _ _ _)
      | (with_reducible exact impl_FieldsOk.mono _ _)
      | (with_reducible exact impl_FrameOk.mono _ _ _ _ _ _)
      | (with_reducible exact impl_LensOk.mono _ _)
      | (with_reducible exact impl_SegsOk.mono _ _)
      | (with_reducible exact impl_TableOk.mono _ _)
      | (with_reducible exact laws_pick.mono _ _ _ _)
      | (with_reducible exact LeO.refl _)
      | (with_reducible exact LeO.none _)
      | (with_reducible refine LeO.ite ?_ ?_)
      | (with_reducible refine LeO.bind ?_ (fun _ => ?_))
      | exact ih0 _ _ _
      | exact ih1 _ _ _ _
      | exact impl_CoefsOk.mono _ _ _ _ _ _ _
      | exact impl_FieldsOk.mono _ _
      | exact impl_FrameOk.mono _ _ _ _ _ _
      | exact impl_LensOk.mono _ _
      | exact impl_SegsOk.mono _ _
      | exact impl_TableOk.mono _ _
      | exact laws_pick.mono _ _ _ _
      | exact LeO.none _
      | refine LeO.ite ?_ ?_
      | refine LeO.bind ?_ (fun _ => ?_)
theorem laws_FnLimits.mono : ∀ a0 k, LeO (laws_FnLimits.f k a0) (laws_FnLimits.f (k + 1) a0) := by
  intro a0 k
  obtain ⟨ih0, ih1⟩ := laws_FnLimits.mono_l k
  unfold laws_FnLimits.f
  repeat' first
      | (with_reducible exact ih0 _ _ _)
      | (with_reducible exact ih1 _ _ _ _)
      | (with_reducible exact impl_CoefsOk.mono _ _ _ _ _ _ _)
      | (with_reducible exact impl_FieldsOk.mono _ _)
      | (with_reducible exact impl_FrameOk.mono _ _ _ _ _ _)
      | (with_reducible exact impl_LensOk.mono _ _)
      | (with_reducible exact impl_SegsOk.mono _ _)
      | (with_reducible exact impl_TableOk.mono _ _)
      | (with_reducible exact laws_pick.mono _ _ _ _)
      | (with_reducible exact LeO.refl _)
      | (with_reducible exact LeO.none _)
      | (with_reducible refine LeO.ite ?_ ?_)
      | (with_reducible refine LeO.bind ?_ (fun _ => ?_))
      | exact ih0 _ _ _
      | exact ih1 _ _ _ _
      | exact impl_CoefsOk.mono _ _ _ _ _ _ _
      | exact impl_FieldsOk.mono _ _
      | exact impl_FrameOk.mono _ _ _ _ _ _
      | exact impl_LensOk.mono _ _
      | exact impl_SegsOk.mono _ _
      | exact impl_TableOk.mono _ _
      | exact laws_pick.mono _ _ _ _
      | exact LeO.none _
      | refine LeO.ite ?_ ?_
      | refine LeO.bind ?_ (fun _ => ?_)
set_option maxHeartbeats 8000000 in
set_option maxRecDepth 100000 in
theorem laws_FnLimits.calls (k : Nat) (A0 : Option Addr) (c0 : Nat) (l0 : List Int) (r : Bool) (w : World) (hr0 : Kd.C (Kd.int .u8) w A0 l0.length l0) (hc0 : l0.length ≤ c0) (HTRUE_ : Aside0 (r = true)) (h : laws_FnLimits.f k l0 = some r) :
    Calls Try.prog 8 #[.slice A0 l0.length c0] w fun e w' => e = .returned (.bool r) ∧ Below w.heap.size w w' := by
  have hu57 := Try.underlying57
  have hu61 := Try.underlying61
  have hu65 := Try.underlying65
  have hu46 := Try.underlying46
  have hu69 := Try.underlying69
  have HR0 := Aside0.mk hr0
  have HC0 := Aside0.mk hc0
  clear hr0 hc0
  have HB := Aside0.mk (Below.refl w.heap.size w)
  have H : ((laws_big.f l0).bind fun t188 => (if t188 = true then (some true) else ((laws_pick.f k l0 1 2).bind fun t189 => ((laws_pick.f k l0 0 8).bind fun t190 => (if t190 = 0 then ((impl_FieldsOk.f k (([(⟨wrap64 (16 + t189), 0⟩ : S57)] : List (S57)))).bind fun t194 => (some (t194 == (t189 == 0)))) else (if t190 = 1 then (laws_FnLimits.l0 k t189 (t189 == 0) (([] : List (S61)))) else (if t190 = 2 then (if 0 ≤ (wrap64 (20000 + t189)) then (if (wrap64 (20000 + t189) : Int).toNat ≤ 281474976710656 then ((impl_SegsOk.f k (([(⟨9, (List.replicate (wrap64 (20000 + t189) : Int).toNat 0)⟩ : S61)] : List (S61)))).bind fun t208 => (some (t208 == (t189 == 0)))) else (none)) else (none)) else (if t190 = 3 then ((impl_FrameOk.f k 8 (wrap64 (256 + t189)) 64 0 (([(⟨0, 1, 1, 0⟩ : S65)] : List (S65)))).bind fun t212 => (some (t212 == (t189 == 0)))) else (if t190 = 4 then ((impl_FrameOk.f k 12 128 (wrap64 (128 + t189)) 0 (([(⟨0, 4, 2, 0⟩ : S65), (⟨1, 1, 2, 0⟩ : S65)] : List (S65)))).bind fun t216 => (some (t216 == (t189 == 0)))) else (if t190 = 5 then (if 64 ≤ 35184372088832 then ((some (List.replicate 64 0 : List Int)).bind fun y221 => (if 9 < (y221.length : Int) then ((impl_CoefsOk.f k 8 8 8 0 (([(⟨0, 1, 1, 0⟩ : S65)] : List (S65))) (([(([(y221.set (9 : Int).toNat (wrap64 ((-16383) - t189)))] : List (List Int)))] : List (List (List Int))))).bind fun t231 => (some (t231 == (t189 == 0)))) else (none))) else (none)) else (if t190 = 6 then (if 0 ≤ (wrap64 (256 + t189)) then (if (wrap64 (256 + t189) : Int).toNat ≤ 35184372088832 then ((some (List.replicate (wrap64 (256 + t189) : Int).toNat 0 : List Int)).bind fun y232 => (if 0 < (y232.length : Int) then ((impl_LensOk.f k (y232.set (0 : Int).toNat 1)).bind fun t236 => (some (t236 == (t189 == 0)))) else (none))) else (none)) else (none)) else (if 64 ≤ 35184372088832 then (laws_FnLimits.l1 k t189 (t189 == 0) (List.replicate 64 0) 0) else (none))))))))))))) = some r := h
  clear h
  replace H := Option.bind_eq_some_iff.mp H
  obtain ⟨t188, A20, H⟩ := H
  replace H : (if t188 = true then (some true) else ((laws_pick.f k l0 1 2).bind fun t189 => ((laws_pick.f k l0 0 8).bind fun t190 => (if t190 = 0 then ((impl_FieldsOk.f k (([(⟨wrap64 (16 + t189), 0⟩ : S57)] : List (S57)))).bind fun t194 => (some (t194 == (t189 == 0)))) else (if t190 = 1 then (laws_FnLimits.l0 k t189 (t189 == 0) (([] : List (S61)))) else (if t190 = 2 then (if 0 ≤ (wrap64 (20000 + t189)) then (if (wrap64 (20000 + t189) : Int).toNat ≤ 281474976710656 then ((impl_SegsOk.f k (([(⟨9, (List.replicate (wrap64 (20000 + t189) : Int).toNat 0)⟩ : S61)] : List (S61)))).bind fun t208 => (some (t208 == (t189 == 0)))) else (none)) else (none)) else (if t190 = 3 then ((impl_FrameOk.f k 8 (wrap64 (256 + t189)) 64 0 (([(⟨0, 1, 1, 0⟩ : S65)] : List (S65)))).bind fun t212 => (some (t212 == (t189 == 0)))) else (if t190 = 4 then ((impl_FrameOk.f k 12 128 (wrap64 (128 + t189)) 0 (([(⟨0, 4, 2, 0⟩ : S65), (⟨1, 1, 2, 0⟩ : S65)] : List (S65)))).bind fun t216 => (some (t216 == (t189 == 0)))) else (if t190 = 5 then (if 64 ≤ 35184372088832 then ((some (List.replicate 64 0 : List Int)).bind fun y221 => (if 9 < (y221.length : Int) then ((impl_CoefsOk.f k 8 8 8 0 (([(⟨0, 1, 1, 0⟩ : S65)] : List (S65))) (([(([(y221.set (9 : Int).toNat (wrap64 ((-16383) - t189)))] : List (List Int)))] : List (List (List Int))))).bind fun t231 => (some (t231 == (t189 == 0)))) else (none))) else (none)) else (if t190 = 6 then (if 0 ≤ (wrap64 (256 + t189)) then (if (wrap64 (256 + t189) : Int).toNat ≤ 35184372088832 then ((some (List.replicate (wrap64 (256 + t189) : Int).toNat 0 : List Int)).bind fun y232 => (if 0 < (y232.length : Int) then ((impl_LensOk.f k (y232.set (0 : Int).toNat 1)).bind fun t236 => (some (t236 == (t189 == 0)))) else (none))) else (none)) else (none)) else (if 64 ≤ 35184372088832 then (laws_FnLimits.l1 k t189 (t189 == 0) (List.replicate 64 0) 0) else (none)))))))))))) = some r := H
  have A2 := Aside0.mk A20
  clear A20
  by_cases c3 : t188 = true
  · subst c3
    have H1 : (some true) = some r := by rw [if_pos rfl] at H; exact H
    clear H
    have H := H1
    clear H1
    obtain rfl := Option.some.inj H
    go_enter Try.func8, Try.ntmps8
    go_wp2_with (first | ((with_reducible refine gate_callee (f := 19) rfl ?_); refine goesL_ (some 12) rfl rfl Try.func19 (by kernel_rfl) rfl #[.slice A0 l0.length c0] rfl (by (try simp only [List.map_toArray, List.map_cons, List.map_nil]); first | done | rfl | (simp only [List.length_drop, List.length_take]; rfl)) ?_; (with_reducible refine (laws_big.calls _ _ l0 true _ ?side1 ?side2 A2.out).mono ?_); (case side1 => repeat (first | exact HR0.out | (with_reducible refine Kd.C_alloc ?_ _) | (with_reducible refine Kd.C_drewN ?_ _) | (with_reducible refine Kd.C_drew ?_))); (case side2 => exact HC0.out); rintro e w' ⟨rfl, ⟨nd, rfl⟩⟩; refine ⟨_, rfl, ?_⟩))
    go_ret
    exact ⟨by first | rfl | (simp [errW_none, errW_some] <;> rfl) | (simp [*, errW_none, errW_some] <;> rfl), by repeat (first | (with_reducible first | exact HB.out | apply below_alloc | apply pw_below_drewN | apply below_drew1) | exact HB.out)⟩
  · replace c3 := Bool.eq_false_iff.mpr c3
    subst c3
    have H1 : ((laws_pick.f k l0 1 2).bind fun t189 => ((laws_pick.f k l0 0 8).bind fun t190 => (if t190 = 0 then ((impl_FieldsOk.f k (([(⟨wrap64 (16 + t189), 0⟩ : S57)] : List (S57)))).bind fun t194 => (some (t194 == (t189 == 0)))) else (if t190 = 1 then (laws_FnLimits.l0 k t189 (t189 == 0) (([] : List (S61)))) else (if t190 = 2 then (if 0 ≤ (wrap64 (20000 + t189)) then (if (wrap64 (20000 + t189) : Int).toNat ≤ 281474976710656 then ((impl_SegsOk.f k (([(⟨9, (List.replicate (wrap64 (20000 + t189) : Int).toNat 0)⟩ : S61)] : List (S61)))).bind fun t208 => (some (t208 == (t189 == 0)))) else (none)) else (none)) else (if t190 = 3 then ((impl_FrameOk.f k 8 (wrap64 (256 + t189)) 64 0 (([(⟨0, 1, 1, 0⟩ : S65)] : List (S65)))).bind fun t212 => (some (t212 == (t189 == 0)))) else (if t190 = 4 then ((impl_FrameOk.f k 12 128 (wrap64 (128 + t189)) 0 (([(⟨0, 4, 2, 0⟩ : S65), (⟨1, 1, 2, 0⟩ : S65)] : List (S65)))).bind fun t216 => (some (t216 == (t189 == 0)))) else (if t190 = 5 then (if 64 ≤ 35184372088832 then ((some (List.replicate 64 0 : List Int)).bind fun y221 => (if 9 < (y221.length : Int) then ((impl_CoefsOk.f k 8 8 8 0 (([(⟨0, 1, 1, 0⟩ : S65)] : List (S65))) (([(([(y221.set (9 : Int).toNat (wrap64 ((-16383) - t189)))] : List (List Int)))] : List (List (List Int))))).bind fun t231 => (some (t231 == (t189 == 0)))) else (none))) else (none)) else (if t190 = 6 then (if 0 ≤ (wrap64 (256 + t189)) then (if (wrap64 (256 + t189) : Int).toNat ≤ 35184372088832 then ((some (List.replicate (wrap64 (256 + t189) : Int).toNat 0 : List Int)).bind fun y232 => (if 0 < (y232.length : Int) then ((impl_LensOk.f k (y232.set (0 : Int).toNat 1)).bind fun t236 => (some (t236 == (t189 == 0)))) else (none))) else (none)) else (none)) else (if 64 ≤ 35184372088832 then (laws_FnLimits.l1 k t189 (t189 == 0) (List.replicate 64 0) 0) else (none))))))))))) = some r := by rw [if_neg (show ¬ (false = true) by decide)] at H; exact H
    clear H
    have H := H1
    clear H1
    replace H := Option.bind_eq_some_iff.mp H
    obtain ⟨t189, A40, H⟩ := H
    replace H : ((laws_pick.f k l0 0 8).bind fun t190 => (if t190 = 0 then ((impl_FieldsOk.f k (([(⟨wrap64 (16 + t189), 0⟩ : S57)] : List (S57)))).bind fun t194 => (some (t194 == (t189 == 0)))) else (if t190 = 1 then (laws_FnLimits.l0 k t189 (t189 == 0) (([] : List (S61)))) else (if t190 = 2 then (if 0 ≤ (wrap64 (20000 + t189)) then (if (wrap64 (20000 + t189) : Int).toNat ≤ 281474976710656 then ((impl_SegsOk.f k (([(⟨9, (List.replicate (wrap64 (20000 + t189) : Int).toNat 0)⟩ : S61)] : List (S61)))).bind fun t208 => (some (t208 == (t189 == 0)))) else (none)) else (none)) else (if t190 = 3 then ((impl_FrameOk.f k 8 (wrap64 (256 + t189)) 64 0 (([(⟨0, 1, 1, 0⟩ : S65)] : List (S65)))).bind fun t212 => (some (t212 == (t189 == 0)))) else (if t190 = 4 then ((impl_FrameOk.f k 12 128 (wrap64 (128 + t189)) 0 (([(⟨0, 4, 2, 0⟩ : S65), (⟨1, 1, 2, 0⟩ : S65)] : List (S65)))).bind fun t216 => (some (t216 == (t189 == 0)))) else (if t190 = 5 then (if 64 ≤ 35184372088832 then ((some (List.replicate 64 0 : List Int)).bind fun y221 => (if 9 < (y221.length : Int) then ((impl_CoefsOk.f k 8 8 8 0 (([(⟨0, 1, 1, 0⟩ : S65)] : List (S65))) (([(([(y221.set (9 : Int).toNat (wrap64 ((-16383) - t189)))] : List (List Int)))] : List (List (List Int))))).bind fun t231 => (some (t231 == (t189 == 0)))) else (none))) else (none)) else (if t190 = 6 then (if 0 ≤ (wrap64 (256 + t189)) then (if (wrap64 (256 + t189) : Int).toNat ≤ 35184372088832 then ((some (List.replicate (wrap64 (256 + t189) : Int).toNat 0 : List Int)).bind fun y232 => (if 0 < (y232.length : Int) then ((impl_LensOk.f k (y232.set (0 : Int).toNat 1)).bind fun t236 => (some (t236 == (t189 == 0)))) else (none))) else (none)) else (none)) else (if 64 ≤ 35184372088832 then (laws_FnLimits.l1 k t189 (t189 == 0) (List.replicate 64 0) 0) else (none)))))))))) = some r := H
    have A4 := Aside0.mk A40
    clear A40
    replace H := Option.bind_eq_some_iff.mp H
    obtain ⟨t190, A50, H⟩ := H
    replace H : (if t190 = 0 then ((impl_FieldsOk.f k (([(⟨wrap64 (16 + t189), 0⟩ : S57)] : List (S57)))).bind fun t194 => (some (t194 == (t189 == 0)))) else (if t190 = 1 then (laws_FnLimits.l0 k t189 (t189 == 0) (([] : List (S61)))) else (if t190 = 2 then (if 0 ≤ (wrap64 (20000 + t189)) then (if (wrap64 (20000 + t189) : Int).toNat ≤ 281474976710656 then ((impl_SegsOk.f k (([(⟨9, (List.replicate (wrap64 (20000 + t189) : Int).toNat 0)⟩ : S61)] : List (S61)))).bind fun t208 => (some (t208 == (t189 == 0)))) else (none)) else (none)) else (if t190 = 3 then ((impl_FrameOk.f k 8 (wrap64 (256 + t189)) 64 0 (([(⟨0, 1, 1, 0⟩ : S65)] : List (S65)))).bind fun t212 => (some (t212 == (t189 == 0)))) else (if t190 = 4 then ((impl_FrameOk.f k 12 128 (wrap64 (128 + t189)) 0 (([(⟨0, 4, 2, 0⟩ : S65), (⟨1, 1, 2, 0⟩ : S65)] : List (S65)))).bind fun t216 => (some (t216 == (t189 == 0)))) else (if t190 = 5 then (if 64 ≤ 35184372088832 then ((some (List.replicate 64 0 : List Int)).bind fun y221 => (if 9 < (y221.length : Int) then ((impl_CoefsOk.f k 8 8 8 0 (([(⟨0, 1, 1, 0⟩ : S65)] : List (S65))) (([(([(y221.set (9 : Int).toNat (wrap64 ((-16383) - t189)))] : List (List Int)))] : List (List (List Int))))).bind fun t231 => (some (t231 == (t189 == 0)))) else (none))) else (none)) else (if t190 = 6 then (if 0 ≤ (wrap64 (256 + t189)) then (if (wrap64 (256 + t189) : Int).toNat ≤ 35184372088832 then ((some (List.replicate (wrap64 (256 + t189) : Int).toNat 0 : List Int)).bind fun y232 => (if 0 < (y232.length : Int) then ((impl_LensOk.f k (y232.set (0 : Int).toNat 1)).bind fun t236 => (some (t236 == (t189 == 0)))) else (none))) else (none)) else (none)) else (if 64 ≤ 35184372088832 then (laws_FnLimits.l1 k t189 (t189 == 0) (List.replicate 64 0) 0) else (none))))))))) = some r := H
    have A5 := Aside0.mk A50
    clear A50
    by_cases c6 : t190 = 0
    · rw [if_pos c6] at H
      have c6b0 : (t190 == 0) = true := beq_iff_eq.mpr c6
      have c6b1 : (t190 != 0) = false := bne_eq_false_iff_eq.mpr c6
      clear c6
      obtain ⟨y191, hy191⟩ : ∃ y_ : List (S57), y_ = (([(⟨wrap64 (16 + t189), 0⟩ : S57)] : List (S57))) := ⟨_, rfl⟩
      replace H : ((impl_FieldsOk.f k y191).bind fun t194 => (some (t194 == (t189 == 0)))) = some r := by first | (rw [hy191]; with_reducible exact H) | (have H2_ := (Option.bind_some _ _).symm.trans H; rw [hy191]; with_reducible exact H2_) | (have H2_ := (Option.bind_some _ _).symm.trans H; with_reducible exact H2_) | with_reducible exact H | (rw [hy191]; exact H) | exact H
      have Ny191 := Aside0.mk hy191
      clear hy191
      replace H := Option.bind_eq_some_iff.mp H
      obtain ⟨t194, A70, H⟩ := H
      replace H : (some (t194 == (t189 == 0))) = some r := H
      have A7 := Aside0.mk A70
      clear A70
      obtain rfl := Option.some.inj H
      go_enter Try.func8, Try.ntmps8
      go_wp2_with (first | ((with_reducible refine gate_callee (f := 19) rfl ?_); refine goesL_ (some 12) rfl rfl Try.func19 (by kernel_rfl) rfl #[.slice A0 l0.length c0] rfl (by (try simp only [List.map_toArray, List.map_cons, List.map_nil]); first | done | rfl | (simp only [List.length_drop, List.length_take]; rfl)) ?_; (with_reducible refine (laws_big.calls _ _ l0 false _ ?side1 ?side2 A2.out).mono ?_); (case side1 => repeat (first | exact HR0.out | (with_reducible refine Kd.C_alloc ?_ _) | (with_reducible refine Kd.C_drewN ?_ _) | (with_reducible refine Kd.C_drew ?_))); (case side2 => exact HC0.out); rintro e w' ⟨rfl, ⟨nd, rfl⟩⟩; refine ⟨_, rfl, ?_⟩) | ((with_reducible refine gate_callee (f := 35) rfl ?_); refine goesL_ (some 14) rfl rfl Try.func35 (by kernel_rfl) rfl #[.slice A0 l0.length c0, .int .i64 1, .int .i64 2] rfl (by (try simp only [List.map_toArray, List.map_cons, List.map_nil]); first | done | rfl | (simp only [List.length_drop, List.length_take]; rfl)) ?_; (with_reducible refine (laws_pick.calls k _ _ l0 1 2 t189 _ ?side1 ?side2 A4.out).mono ?_); (case side1 => repeat (first | exact HR0.out | (with_reducible refine Kd.C_alloc ?_ _) | (with_reducible refine Kd.C_drewN ?_ _) | (with_reducible refine Kd.C_drew ?_))); (case side2 => exact HC0.out); rintro e w' ⟨rfl, ⟨nd, rfl⟩⟩; refine ⟨_, rfl, ?_⟩) | ((with_reducible refine gate_callee (f := 35) rfl ?_); refine goesL_ (some 18) rfl rfl Try.func35 (by kernel_rfl) rfl #[.slice A0 l0.length c0, .int .i64 0, .int .i64 8] rfl (by (try simp only [List.map_toArray, List.map_cons, List.map_nil]); first | done | rfl | (simp only [List.length_drop, List.length_take]; rfl)) ?_; (with_reducible refine (laws_pick.calls k _ _ l0 0 8 t190 _ ?side1 ?side2 A5.out).mono ?_); (case side1 => repeat (first | exact HR0.out | (with_reducible refine Kd.C_alloc ?_ _) | (with_reducible refine Kd.C_drewN ?_ _) | (with_reducible refine Kd.C_drew ?_))); (case side2 => exact HC0.out); rintro e w' ⟨rfl, ⟨nd, rfl⟩⟩; refine ⟨_, rfl, ?_⟩) | ((with_reducible refine gate_dst (N := 24) rfl ?_); refine Kd.R_lit k57 _ 57 ?hg (N := 24) ?hd (xs := ([(⟨wrap64 (16 + t189), 0⟩ : S57)] : List (S57))) (inner := [.int .i64 (wrap64 (16 + t189)), .int .i64 0]) (ok := fun _ => True) (okp := fun _ => True) ?hr ?hp (fun _ hk => hk) trivial (Below.refl _ _) (Nat.le_refl _) (by simp) ?_; (case hd => rfl); (case hg => rfl); (case hr => first | (go_simp; done) | (go_simp; rfl)); (case hp => exact (Reps.c2 (show Kd.M k57 _ _ _ (⟨wrap64 (16 + t189), 0⟩ : S57) [.int .i64 (wrap64 (16 + t189)), .int .i64 0] from (k57_mkM _ _ _ (⟨wrap64 (16 + t189), 0⟩ : S57) )) (Reps.none _ _))); intro v192 w8 ho9 hb hg_ hnew_; clear hg_ hnew_; (first | rw [← Ny191.out] at ho9 | (simp only [Int.reduceToNat] at ho9; rw [← Ny191.out] at ho9)); have n0_ := Aside0.mk (Kd.R_lower ho9 (below_size (by repeat (first | (with_reducible first | exact HB.out | apply below_alloc | apply pw_below_drewN | apply below_drew1) | exact HB.out)))); have n1_ := Aside0.mk (below_step (by repeat (first | (with_reducible first | exact HB.out | apply below_alloc | apply pw_below_drewN | apply below_drew1) | exact HB.out)) hb); clear HB; have HO193 := n0_; have HB := n1_; clear n0_ n1_; clear hb ho9; obtain ⟨Ao10, co10, eo10⟩ := Kd.R_slice HO193.out; subst eo10) | ((with_reducible refine gate_callee (f := 36) rfl ?_); refine goesL_ (some 25) rfl rfl Try.func36 (by kernel_rfl) rfl #[.slice Ao10 y191.length co10] rfl (by (try simp only [List.map_toArray, List.map_cons, List.map_nil]); first | done | rfl | (simp only [List.length_drop, List.length_take]; rfl)) ?_; (with_reducible refine (impl_FieldsOk.calls k _ _ y191 t194 _ ?side1 ?side2 A7.out).mono ?_); (case side1 => repeat (first | exact (Kd.R_reads' HO193.out).2.2 | (with_reducible refine Kd.C_alloc ?_ _) | (with_reducible refine Kd.C_drewN ?_ _) | (with_reducible refine Kd.C_drew ?_))); (case side2 => exact (Kd.R_reads' HO193.out).2.1); rintro e w11 ⟨rfl, hb⟩; refine ⟨_, rfl, ?_⟩; have n0_ := Aside0.mk (Kd.R_below (by (with_reducible repeat (first | apply Kd.R_alloc | apply Kd.R_drewN | apply Kd.R_drew)); exact HO193.out) hb); have n1_ := Aside0.mk (below_step (by repeat (first | (with_reducible first | exact HB.out | apply below_alloc | apply pw_below_drewN | apply below_drew1) | exact HB.out)) hb); clear HO193; clear HB; have HO193 := n0_; have HB := n1_; clear n0_ n1_; (try clear hb); (try clear hb2); (try clear hk); (try clear hi)))
      go_ret
      exact ⟨by first | rfl | (simp [errW_none, errW_some] <;> rfl) | (simp [*, errW_none, errW_some] <;> rfl), by repeat (first | (with_reducible first | exact HB.out | apply below_alloc | apply pw_below_drewN | apply below_drew1) | exact HB.out)⟩
    · rw [if_neg c6] at H
      have c6b0 : (t190 == 0) = false := beq_eq_false_iff_ne.mpr c6
      have c6b1 : (t190 != 0) = true := bne_iff_ne.mpr c6
      by_cases c12 : t190 = 1
      · rw [if_pos c12] at H
        have c12b0 : (t190 == 1) = true := beq_iff_eq.mpr c12
        have c12b1 : (t190 != 1) = false := bne_eq_false_iff_eq.mpr c12
        clear c12
        obtain ⟨y195, hy195⟩ : ∃ y_ : List (S61), y_ = (([] : List (S61))) := ⟨_, rfl⟩
        replace H : (laws_FnLimits.l0 k t189 (t189 == 0) y195) = some r := by first | (rw [hy195]; with_reducible exact H) | (have H2_ := (Option.bind_some _ _).symm.trans H; rw [hy195]; with_reducible exact H2_) | (have H2_ := (Option.bind_some _ _).symm.trans H; with_reducible exact H2_) | with_reducible exact H | (rw [hy195]; exact H) | exact H
        have Ny195 := Aside0.mk hy195
        clear hy195
        have H' := Aside0.mk H
        clear H
        go_enter Try.func8, Try.ntmps8
        go_wp2_with (first | ((with_reducible refine gate_callee (f := 19) rfl ?_); refine goesL_ (some 12) rfl rfl Try.func19 (by kernel_rfl) rfl #[.slice A0 l0.length c0] rfl (by (try simp only [List.map_toArray, List.map_cons, List.map_nil]); first | done | rfl | (simp only [List.length_drop, List.length_take]; rfl)) ?_; (with_reducible refine (laws_big.calls _ _ l0 false _ ?side1 ?side2 A2.out).mono ?_); (case side1 => repeat (first | exact HR0.out | (with_reducible refine Kd.C_alloc ?_ _) | (with_reducible refine Kd.C_drewN ?_ _) | (with_reducible refine Kd.C_drew ?_))); (case side2 => exact HC0.out); rintro e w' ⟨rfl, ⟨nd, rfl⟩⟩; refine ⟨_, rfl, ?_⟩) | ((with_reducible refine gate_callee (f := 35) rfl ?_); refine goesL_ (some 14) rfl rfl Try.func35 (by kernel_rfl) rfl #[.slice A0 l0.length c0, .int .i64 1, .int .i64 2] rfl (by (try simp only [List.map_toArray, List.map_cons, List.map_nil]); first | done | rfl | (simp only [List.length_drop, List.length_take]; rfl)) ?_; (with_reducible refine (laws_pick.calls k _ _ l0 1 2 t189 _ ?side1 ?side2 A4.out).mono ?_); (case side1 => repeat (first | exact HR0.out | (with_reducible refine Kd.C_alloc ?_ _) | (with_reducible refine Kd.C_drewN ?_ _) | (with_reducible refine Kd.C_drew ?_))); (case side2 => exact HC0.out); rintro e w' ⟨rfl, ⟨nd, rfl⟩⟩; refine ⟨_, rfl, ?_⟩) | ((with_reducible refine gate_callee (f := 35) rfl ?_); refine goesL_ (some 18) rfl rfl Try.func35 (by kernel_rfl) rfl #[.slice A0 l0.length c0, .int .i64 0, .int .i64 8] rfl (by (try simp only [List.map_toArray, List.map_cons, List.map_nil]); first | done | rfl | (simp only [List.length_drop, List.length_take]; rfl)) ?_; (with_reducible refine (laws_pick.calls k _ _ l0 0 8 t190 _ ?side1 ?side2 A5.out).mono ?_); (case side1 => repeat (first | exact HR0.out | (with_reducible refine Kd.C_alloc ?_ _) | (with_reducible refine Kd.C_drewN ?_ _) | (with_reducible refine Kd.C_drew ?_))); (case side2 => exact HC0.out); rintro e w' ⟨rfl, ⟨nd, rfl⟩⟩; refine ⟨_, rfl, ?_⟩) | ((with_reducible refine gate_dst (N := 30) rfl ?_); refine Kd.N_lit k61 _ 61 ?hg (N' := 30) ?hd (xs := ([] : List (S61))) (inner := []) (ok := (fun _ => True)) (okp := (fun _ => True)) ?hr ?hp (fun _ hk => hk) ((show ∀ k_, w.heap.size ≤ k_ → (fun _ => True) k_ from fun k_ hk => trivial) _ (Nat.le_refl _)) (Below.refl _ _) (Nat.le_refl _) (by simp) ?_; (case hd => rfl); (case hg => rfl); (case hr => first | (go_simp; done) | (go_simp; rfl)); (case hp => exact (Reps.none _ _)); intro v196 w13 ho14 hb hg_ hnew_; clear hg_ hnew_; (first | rw [← Ny195.out] at ho14 | (simp only [Int.reduceToNat] at ho14; rw [← Ny195.out] at ho14)); have n0_ := Aside0.mk (Kd.N_lower ho14 (below_size (by repeat (first | (with_reducible first | exact HB.out | apply below_alloc | apply pw_below_drewN | apply below_drew1) | exact HB.out)))); have n1_ := Aside0.mk (below_step (by repeat (first | (with_reducible first | exact HB.out | apply below_alloc | apply pw_below_drewN | apply below_drew1) | exact HB.out)) hb); clear HB; have HO197 := n0_; have HB := n1_; clear n0_ n1_; clear hb ho14))
        go_loopg [5] k (fun kq v5 w' => ∃ (x5_1 : List (S61)), Aside0 (laws_FnLimits.l0 kq t189 (t189 == 0) x5_1 = some r) ∧ Aside0 (kq ≤ k) ∧ Aside0 (Kd.N k61 61 w' w.heap.size (fun _ => True) v5 x5_1) ∧ Aside0 (Below w.heap.size w w'))
        case atStart => exact ⟨(y195), H', ⟨Nat.le_refl _⟩, ⟨by (with_reducible repeat (first | apply Kd.N_alloc | apply Kd.N_drewN | apply Kd.N_drew)); exact HO197.out⟩, ⟨by repeat (first | (with_reducible first | exact HB.out | apply below_alloc | apply pw_below_drewN | apply below_drew1) | exact HB.out)⟩⟩
        case round =>
          clear H'
          try clear c1
          try clear c2
          try clear p2
          try clear c3
          try clear c6
          try clear c6b0
          try clear c6b1
          try clear p6
          try clear c8
          try clear c12
          try clear c12b0
          try clear c12b1
          obtain ⟨x5_1, HA, HK1, HO_5, HB⟩ := hrel
          cases gk with
          | zero => exact absurd HA.out (by simp [laws_FnLimits.l0])
          | succ k1 =>
            have H := HA.out
            clear HA
            simp only [laws_FnLimits.l0] at H
            by_cases c15 : (x5_1.length : Int) < (wrap64 (300 + t189))
            · rw [if_pos c15] at H
              have c15b0 : decide ((x5_1.length : Int) < (wrap64 (300 + t189))) = true := decide_eq_true c15
              clear c15
              by_cases c16 : x5_1.length < 4398046511104
              · rw [if_pos c16] at H
                have LMc16 := Aside0.mk c16
                clear c16
                obtain ⟨y198, hy198⟩ : ∃ y_ : List (S61), y_ = (x5_1 ++ [(⟨9, ([] : List Int)⟩ : S61)]) := ⟨_, rfl⟩
                replace H : (laws_FnLimits.l0 k1 t189 (t189 == 0) y198) = some r := by first | (rw [hy198]; with_reducible exact H) | (have H2_ := (Option.bind_some _ _).symm.trans H; rw [hy198]; with_reducible exact H2_) | (have H2_ := (Option.bind_some _ _).symm.trans H; with_reducible exact H2_) | with_reducible exact H | (rw [hy198]; exact H) | exact H
                have Ny198 := Aside0.mk hy198
                clear hy198
                have H' := Aside0.mk H
                clear H
                obtain ⟨Ao17, co17, eo17⟩ := Kd.N_slice HO_5.out
                subst eo17
                go_wp2_with (first | ((with_reducible refine gate_builtin (b := .append) (xs := #[.tmp 36, .tmp 38]) rfl ?_); at_builtin; refine Kd.N_append k61 (w0 := w) w.heap.size rfl (.tmp 36) (.tmp 38) 59 61 (.agg #[(.int .i64 0), (.slice none 0 0)]) 32 rfl Try.underlying59 info61 rfl (by decide) (by omega) (.slice Ao17 x5_1.length co17) x5_1 (⟨9, ([] : List Int)⟩ : S61) [.int .i64 9, .slice none 0 0] (fun _ => True) (fun k_ => ((fun _ => True)) k_ ∧ some k_ ≠ (.slice Ao17 x5_1.length co17 : Value).ownBlock) rfl rfl ?aP (fun _ hk => hk) ?aF ?aO ?aB ?aS ?aL ?_; (case aP => exact (k61_mkF _ _ (⟨9, ([] : List Int)⟩ : S61) (Nat.le_refl _) (Kd.F_nil _ _ _))); (case aB => exact (by repeat (first | (with_reducible first | exact HB.out | apply below_alloc | apply pw_below_drewN | apply below_drew1) | exact HB.out))); (case aF => exact (fun _ _ => trivial)); (case aO => exact (by (with_reducible repeat (first | apply Kd.N_alloc | apply Kd.N_drewN | apply Kd.N_drew)); exact HO_5.out)); (case aS => exact (below_size (by repeat (first | (with_reducible first | exact HB.out | apply below_alloc | apply pw_below_drewN | apply below_drew1) | exact HB.out)))); (case aL => have := LMc16.out; omega); intro v199 w18 ho hb hg hat; rw [← Ny198.out] at ho; have n0_ := Aside0.mk (hb); have n1_ := Aside0.mk (ho); clear HB; clear HO_5; have HB := n0_; have HO200 := n1_; clear n0_ n1_; clear ho hb hg hat))
                go_roundg k1
                case measure => have := HK1.out; omega
                case rel => exact ⟨(y198), H', ⟨by have := HK1.out; omega⟩, ⟨by (with_reducible repeat (first | apply Kd.N_alloc | apply Kd.N_drewN | apply Kd.N_drew)); exact HO200.out⟩, ⟨by repeat (first | (with_reducible first | exact HB.out | apply below_alloc | apply pw_below_drewN | apply below_drew1) | exact HB.out)⟩⟩
              · rw [if_neg c16] at H
                exact absurd H (by simp)
            · rw [if_neg c15] at H
              have c15b0 : decide ((x5_1.length : Int) < (wrap64 (300 + t189))) = false := decide_eq_false c15
              clear c15
              replace H := Option.bind_eq_some_iff.mp H
              obtain ⟨t201, A190, H⟩ := H
              replace H : (some (t201 == (t189 == 0))) = some r := H
              have A19 := Aside0.mk A190
              clear A190
              obtain rfl := Option.some.inj H
              obtain ⟨Ao20, co20, eo20⟩ := Kd.N_slice HO_5.out
              subst eo20
              go_wp2_with (first | ((with_reducible refine gate_callee (f := 37) rfl ?_); refine goesL_ (some 41) rfl rfl Try.func37 (by kernel_rfl) rfl #[.slice Ao20 x5_1.length co20] rfl (by (try simp only [List.map_toArray, List.map_cons, List.map_nil]); first | done | rfl | (simp only [List.length_drop, List.length_take]; rfl)) ?_; (with_reducible refine (impl_SegsOk.calls k1 _ _ x5_1 t201 _ ?side1 ?side2 A19.out).mono ?_); (case side1 => repeat (first | exact (Kd.N_reads' HO_5.out).2.2 | (with_reducible refine Kd.C_alloc ?_ _) | (with_reducible refine Kd.C_drewN ?_ _) | (with_reducible refine Kd.C_drew ?_))); (case side2 => exact (Kd.N_reads' HO_5.out).2.1); rintro e w21 ⟨rfl, hb⟩; refine ⟨_, rfl, ?_⟩; have n0_ := Aside0.mk (Kd.N_below (by (with_reducible repeat (first | apply Kd.N_alloc | apply Kd.N_drewN | apply Kd.N_drew)); exact HO_5.out) hb); have n1_ := Aside0.mk (below_step (by repeat (first | (with_reducible first | exact HB.out | apply below_alloc | apply pw_below_drewN | apply below_drew1) | exact HB.out)) hb); clear HO_5; clear HB; have HO_5 := n0_; have HB := n1_; clear n0_ n1_; (try clear hb); (try clear hb2); (try clear hk); (try clear hi)))
              go_ret
              exact ⟨by first | rfl | (simp [errW_none, errW_some] <;> rfl) | (simp [*, errW_none, errW_some] <;> rfl), by repeat (first | (with_reducible first | exact HB.out | apply below_alloc | apply pw_below_drewN | apply below_drew1) | exact HB.out)⟩
      · rw [if_neg c12] at H
        have c12b0 : (t190 == 1) = false := beq_eq_false_iff_ne.mpr c12
        have c12b1 : (t190 != 1) = true := bne_iff_ne.mpr c12
        by_cases c22 : t190 = 2
        · rw [if_pos c22] at H
          have c22b0 : (t190 == 2) = true := beq_iff_eq.mpr c22
          have c22b1 : (t190 != 2) = false := bne_eq_false_iff_eq.mpr c22
          clear c22
          obtain ⟨ji23, hji23⟩ : ∃ j_ : Int, (wrap64 (20000 + t189)) = j_ := ⟨_, rfl⟩
          replace H : (if 0 ≤ (ji23) then (if (ji23 : Int).toNat ≤ 281474976710656 then ((impl_SegsOk.f k (([(⟨9, (List.replicate (ji23 : Int).toNat 0)⟩ : S61)] : List (S61)))).bind fun t208 => (some (t208 == (t189 == 0)))) else (none)) else (none)) = some r := by first | (rw [hji23] at H; exact H) | (simp only [hji23] at H ⊢; exact H)
          (try rw [hji23] at A2)
          (try rw [hji23] at A4)
          (try rw [hji23] at A5)
          have hji23w : (IntKind.i64.wrap (20000 + t189)) = ji23 := (i64_w _).trans hji23
          by_cases c24 : 0 ≤ (ji23)
          · rw [if_pos c24] at H
            have c24b0 := eq_true c24
            have c24b1 : decide (0 ≤ (ji23)) = true := decide_eq_true c24
            clear c24
            by_cases c25 : (ji23 : Int).toNat ≤ 281474976710656
            · rw [if_pos c25] at H
              have c25b0 := eq_true c25
              have c25b1 : decide ((ji23 : Int).toNat ≤ 281474976710656) = true := decide_eq_true c25
              clear c25
              obtain ⟨y202, hy202⟩ : ∃ y_ : List Int, y_ = (List.replicate (ji23 : Int).toNat 0) := ⟨_, rfl⟩
              replace H : ((impl_SegsOk.f k (([(⟨9, y202⟩ : S61)] : List (S61)))).bind fun t208 => (some (t208 == (t189 == 0)))) = some r := by first | (rw [hy202]; with_reducible exact H) | (have H2_ := (Option.bind_some _ _).symm.trans H; rw [hy202]; with_reducible exact H2_) | (have H2_ := (Option.bind_some _ _).symm.trans H; with_reducible exact H2_) | with_reducible exact H | (rw [hy202]; exact H) | exact H
              have Ny202 := Aside0.mk hy202
              clear hy202
              obtain ⟨y205, hy205⟩ : ∃ y_ : List (S61), y_ = (([(⟨9, y202⟩ : S61)] : List (S61))) := ⟨_, rfl⟩
              replace H : ((impl_SegsOk.f k y205).bind fun t208 => (some (t208 == (t189 == 0)))) = some r := by first | (rw [hy205]; with_reducible exact H) | (have H2_ := (Option.bind_some _ _).symm.trans H; rw [hy205]; with_reducible exact H2_) | (have H2_ := (Option.bind_some _ _).symm.trans H; with_reducible exact H2_) | with_reducible exact H | (rw [hy205]; exact H) | exact H
              have Ny205 := Aside0.mk hy205
              clear hy205
              replace H := Option.bind_eq_some_iff.mp H
              obtain ⟨t208, A260, H⟩ := H
              replace H : (some (t208 == (t189 == 0))) = some r := H
              have A26 := Aside0.mk A260
              clear A260
              obtain rfl := Option.some.inj H
              go_enter Try.func8, Try.ntmps8
              go_wp2_with (first | ((with_reducible refine gate_callee (f := 19) rfl ?_); refine goesL_ (some 12) rfl rfl Try.func19 (by kernel_rfl) rfl #[.slice A0 l0.length c0] rfl (by (try simp only [List.map_toArray, List.map_cons, List.map_nil]); first | done | rfl | (simp only [List.length_drop, List.length_take]; rfl)) ?_; (with_reducible refine (laws_big.calls _ _ l0 false _ ?side1 ?side2 A2.out).mono ?_); (case side1 => repeat (first | exact HR0.out | (with_reducible refine Kd.C_alloc ?_ _) | (with_reducible refine Kd.C_drewN ?_ _) | (with_reducible refine Kd.C_drew ?_))); (case side2 => exact HC0.out); rintro e w' ⟨rfl, ⟨nd, rfl⟩⟩; refine ⟨_, rfl, ?_⟩) | ((with_reducible refine gate_callee (f := 35) rfl ?_); refine goesL_ (some 14) rfl rfl Try.func35 (by kernel_rfl) rfl #[.slice A0 l0.length c0, .int .i64 1, .int .i64 2] rfl (by (try simp only [List.map_toArray, List.map_cons, List.map_nil]); first | done | rfl | (simp only [List.length_drop, List.length_take]; rfl)) ?_; (with_reducible refine (laws_pick.calls k _ _ l0 1 2 t189 _ ?side1 ?side2 A4.out).mono ?_); (case side1 => repeat (first | exact HR0.out | (with_reducible refine Kd.C_alloc ?_ _) | (with_reducible refine Kd.C_drewN ?_ _) | (with_reducible refine Kd.C_drew ?_))); (case side2 => exact HC0.out); rintro e w' ⟨rfl, ⟨nd, rfl⟩⟩; refine ⟨_, rfl, ?_⟩) | ((with_reducible refine gate_callee (f := 35) rfl ?_); refine goesL_ (some 18) rfl rfl Try.func35 (by kernel_rfl) rfl #[.slice A0 l0.length c0, .int .i64 0, .int .i64 8] rfl (by (try simp only [List.map_toArray, List.map_cons, List.map_nil]); first | done | rfl | (simp only [List.length_drop, List.length_take]; rfl)) ?_; (with_reducible refine (laws_pick.calls k _ _ l0 0 8 t190 _ ?side1 ?side2 A5.out).mono ?_); (case side1 => repeat (first | exact HR0.out | (with_reducible refine Kd.C_alloc ?_ _) | (with_reducible refine Kd.C_drewN ?_ _) | (with_reducible refine Kd.C_drew ?_))); (case side2 => exact HC0.out); rintro e w' ⟨rfl, ⟨nd, rfl⟩⟩; refine ⟨_, rfl, ?_⟩) | ((with_reducible refine gate_dst (N := 48) rfl ?_); refine Kd.R_make (Kd.int .u8) _ 5 rfl (N := 48) rfl 28 _ _ rfl ji23 rfl rfl Try.underlying28 (.int .u8 0) 1 info5 rfl (by decide) (by omega) 0 (ok := fun _ => True) (okp := fun _ => True) rfl (fun _ hk => hk) trivial (of_decide_eq_true (by first | (with_reducible assumption) | assumption)) (Nat.le_trans (Nat.mul_le_mul_right _ (of_decide_eq_true (by first | (with_reducible assumption) | assumption) : ji23.toNat ≤ 281474976710656)) (by omega)) (Below.refl _ _) (Nat.le_refl _) ?_; intro v203 w27 ho28 hb hg_ hnew_; clear hg_ hnew_; (first | rw [← Ny202.out] at ho28 | (simp only [Int.reduceToNat] at ho28; rw [← Ny202.out] at ho28)); have n0_ := Aside0.mk (Kd.R_lower ho28 (below_size (by repeat (first | (with_reducible first | exact HB.out | apply below_alloc | apply pw_below_drewN | apply below_drew1) | exact HB.out)))); have n1_ := Aside0.mk (below_step (by repeat (first | (with_reducible first | exact HB.out | apply below_alloc | apply pw_below_drewN | apply below_drew1) | exact HB.out)) hb); clear HB; have HO204 := n0_; have HB := n1_; clear n0_ n1_; clear hb ho28; obtain ⟨Ao29, co29, eo29⟩ := Kd.R_slice HO204.out; subst eo29) | ((with_reducible refine gate_dst (N := 50) rfl ?_); refine Kd.N_lit k61 _ 61 ?hg (N' := 50) ?hd (xs := ([(⟨9, y202⟩ : S61)] : List (S61))) (inner := [.int .i64 9, .slice Ao29 y202.length co29]) (ok := (fun _ => True)) (okp := (fun _ => True)) ?hr ?hp (fun _ hk => hk) ((show ∀ k_, w27.heap.size ≤ k_ → (fun _ => True) k_ from fun k_ hk => trivial) _ (Nat.le_refl _)) (Below.refl _ _) (Nat.le_refl _) (by simp) ?_; (case hd => rfl); (case hg => rfl); (case hr => first | (go_simp; done) | (go_simp; rfl)); (case hp => exact (Reps.c2 (show Kd.FK k61 _ _ (⟨9, y202⟩ : S61) [.int .i64 9, .slice Ao29 y202.length co29] from (k61_mkF _ _ (⟨9, y202⟩ : S61) (Kd.R_reads' (Kd.R_mono (ok' := (fun _ => True)) (HO204.out) (fun k_ hk => trivial))).2.1 (Kd.R_F (Kd.R_mono (ok' := (fun _ => True)) (HO204.out) (fun k_ hk => trivial))))) (Reps.none _ _))); intro v206 w30 ho31 hb hg_ hnew_; clear hg_ hnew_; (first | rw [← Ny205.out] at ho31 | (simp only [Int.reduceToNat] at ho31; rw [← Ny205.out] at ho31)); have n0_ := Aside0.mk (Kd.N_lower ho31 (below_size (by repeat (first | (with_reducible first | exact HB.out | apply below_alloc | apply pw_below_drewN | apply below_drew1) | exact HB.out)))); have n1_ := Aside0.mk (below_step (by repeat (first | (with_reducible first | exact HB.out | apply below_alloc | apply pw_below_drewN | apply below_drew1) | exact HB.out)) hb); clear HB; clear HO204; have HO207 := n0_; have HB := n1_; clear n0_ n1_; clear hb ho31; obtain ⟨Ao32, co32, eo32⟩ := Kd.N_slice HO207.out; subst eo32) | ((with_reducible refine gate_callee (f := 37) rfl ?_); refine goesL_ (some 51) rfl rfl Try.func37 (by kernel_rfl) rfl #[.slice Ao32 y205.length co32] rfl (by (try simp only [List.map_toArray, List.map_cons, List.map_nil]); first | done | rfl | (simp only [List.length_drop, List.length_take]; rfl)) ?_; (with_reducible refine (impl_SegsOk.calls k _ _ y205 t208 _ ?side1 ?side2 A26.out).mono ?_); (case side1 => repeat (first | exact (Kd.N_reads' HO207.out).2.2 | (with_reducible refine Kd.C_alloc ?_ _) | (with_reducible refine Kd.C_drewN ?_ _) | (with_reducible refine Kd.C_drew ?_))); (case side2 => exact (Kd.N_reads' HO207.out).2.1); rintro e w33 ⟨rfl, hb⟩; refine ⟨_, rfl, ?_⟩; have n0_ := Aside0.mk (Kd.N_below (by (with_reducible repeat (first | apply Kd.N_alloc | apply Kd.N_drewN | apply Kd.N_drew)); exact HO207.out) hb); have n1_ := Aside0.mk (below_step (by repeat (first | (with_reducible first | exact HB.out | apply below_alloc | apply pw_below_drewN | apply below_drew1) | exact HB.out)) hb); clear HO207; clear HB; have HO207 := n0_; have HB := n1_; clear n0_ n1_; (try clear hb); (try clear hb2); (try clear hk); (try clear hi)))
              go_ret
              exact ⟨by first | rfl | (simp [errW_none, errW_some] <;> rfl) | (simp only [← hji23]; first | rfl | (simp [errW_none, errW_some] <;> rfl)) | (simp [*, errW_none, errW_some] <;> rfl), by repeat (first | (with_reducible first | exact HB.out | apply below_alloc | apply pw_below_drewN | apply below_drew1) | exact HB.out)⟩
            · rw [if_neg c25] at H
              exact absurd H (by simp)
          · rw [if_neg c24] at H
            exact absurd H (by simp)
        · rw [if_neg c22] at H
          have c22b0 : (t190 == 2) = false := beq_eq_false_iff_ne.mpr c22
          have c22b1 : (t190 != 2) = true := bne_iff_ne.mpr c22
          by_cases c34 : t190 = 3
          · rw [if_pos c34] at H
            have c34b0 : (t190 == 3) = true := beq_iff_eq.mpr c34
            have c34b1 : (t190 != 3) = false := bne_eq_false_iff_eq.mpr c34
            clear c34
            obtain ⟨y209, hy209⟩ : ∃ y_ : List (S65), y_ = (([(⟨0, 1, 1, 0⟩ : S65)] : List (S65))) := ⟨_, rfl⟩
            replace H : ((impl_FrameOk.f k 8 (wrap64 (256 + t189)) 64 0 y209).bind fun t212 => (some (t212 == (t189 == 0)))) = some r := by first | (rw [hy209]; with_reducible exact H) | (have H2_ := (Option.bind_some _ _).symm.trans H; rw [hy209]; with_reducible exact H2_) | (have H2_ := (Option.bind_some _ _).symm.trans H; with_reducible exact H2_) | with_reducible exact H | (rw [hy209]; exact H) | exact H
            have Ny209 := Aside0.mk hy209
            clear hy209
            replace H := Option.bind_eq_some_iff.mp H
            obtain ⟨t212, A350, H⟩ := H
            replace H : (some (t212 == (t189 == 0))) = some r := H
            have A35 := Aside0.mk A350
            clear A350
            obtain rfl := Option.some.inj H
            go_enter Try.func8, Try.ntmps8
            go_wp2_with (first | ((with_reducible refine gate_callee (f := 19) rfl ?_); refine goesL_ (some 12) rfl rfl Try.func19 (by kernel_rfl) rfl #[.slice A0 l0.length c0] rfl (by (try simp only [List.map_toArray, List.map_cons, List.map_nil]); first | done | rfl | (simp only [List.length_drop, List.length_take]; rfl)) ?_; (with_reducible refine (laws_big.calls _ _ l0 false _ ?side1 ?side2 A2.out).mono ?_); (case side1 => repeat (first | exact HR0.out | (with_reducible refine Kd.C_alloc ?_ _) | (with_reducible refine Kd.C_drewN ?_ _) | (with_reducible refine Kd.C_drew ?_))); (case side2 => exact HC0.out); rintro e w' ⟨rfl, ⟨nd, rfl⟩⟩; refine ⟨_, rfl, ?_⟩) | ((with_reducible refine gate_callee (f := 35) rfl ?_); refine goesL_ (some 14) rfl rfl Try.func35 (by kernel_rfl) rfl #[.slice A0 l0.length c0, .int .i64 1, .int .i64 2] rfl (by (try simp only [List.map_toArray, List.map_cons, List.map_nil]); first | done | rfl | (simp only [List.length_drop, List.length_take]; rfl)) ?_; (with_reducible refine (laws_pick.calls k _ _ l0 1 2 t189 _ ?side1 ?side2 A4.out).mono ?_); (case side1 => repeat (first | exact HR0.out | (with_reducible refine Kd.C_alloc ?_ _) | (with_reducible refine Kd.C_drewN ?_ _) | (with_reducible refine Kd.C_drew ?_))); (case side2 => exact HC0.out); rintro e w' ⟨rfl, ⟨nd, rfl⟩⟩; refine ⟨_, rfl, ?_⟩) | ((with_reducible refine gate_callee (f := 35) rfl ?_); refine goesL_ (some 18) rfl rfl Try.func35 (by kernel_rfl) rfl #[.slice A0 l0.length c0, .int .i64 0, .int .i64 8] rfl (by (try simp only [List.map_toArray, List.map_cons, List.map_nil]); first | done | rfl | (simp only [List.length_drop, List.length_take]; rfl)) ?_; (with_reducible refine (laws_pick.calls k _ _ l0 0 8 t190 _ ?side1 ?side2 A5.out).mono ?_); (case side1 => repeat (first | exact HR0.out | (with_reducible refine Kd.C_alloc ?_ _) | (with_reducible refine Kd.C_drewN ?_ _) | (with_reducible refine Kd.C_drew ?_))); (case side2 => exact HC0.out); rintro e w' ⟨rfl, ⟨nd, rfl⟩⟩; refine ⟨_, rfl, ?_⟩) | ((with_reducible refine gate_dst (N := 59) rfl ?_); refine Kd.R_lit k65 _ 65 ?hg (N := 59) ?hd (xs := ([(⟨0, 1, 1, 0⟩ : S65)] : List (S65))) (inner := [.int .i64 0, .int .i64 1, .int .i64 1, .int .i64 0]) (ok := fun _ => True) (okp := fun _ => True) ?hr ?hp (fun _ hk => hk) trivial (Below.refl _ _) (Nat.le_refl _) (by simp) ?_; (case hd => rfl); (case hg => rfl); (case hr => first | (go_simp; done) | (go_simp; rfl)); (case hp => exact (Reps.c4 (show Kd.M k65 _ _ _ (⟨0, 1, 1, 0⟩ : S65) [.int .i64 0, .int .i64 1, .int .i64 1, .int .i64 0] from (k65_mkM _ _ _ (⟨0, 1, 1, 0⟩ : S65) )) (Reps.none _ _))); intro v210 w36 ho37 hb hg_ hnew_; clear hg_ hnew_; (first | rw [← Ny209.out] at ho37 | (simp only [Int.reduceToNat] at ho37; rw [← Ny209.out] at ho37)); have n0_ := Aside0.mk (Kd.R_lower ho37 (below_size (by repeat (first | (with_reducible first | exact HB.out | apply below_alloc | apply pw_below_drewN | apply below_drew1) | exact HB.out)))); have n1_ := Aside0.mk (below_step (by repeat (first | (with_reducible first | exact HB.out | apply below_alloc | apply pw_below_drewN | apply below_drew1) | exact HB.out)) hb); clear HB; have HO211 := n0_; have HB := n1_; clear n0_ n1_; clear hb ho37; obtain ⟨Ao38, co38, eo38⟩ := Kd.R_slice HO211.out; subst eo38) | ((with_reducible refine gate_callee (f := 38) rfl ?_); refine goesL_ (some 61) rfl rfl Try.func38 (by kernel_rfl) rfl #[.agg #[.int .i64 8, .int .i64 (wrap64 (256 + t189)), .int .i64 64, .int .i64 0, .slice Ao38 y209.length co38]] rfl (by (try simp only [List.map_toArray, List.map_cons, List.map_nil]); first | done | rfl | (simp only [List.length_drop, List.length_take]; rfl)) ?_; (with_reducible refine (impl_FrameOk.calls k 8 (wrap64 (256 + t189)) 64 0 _ _ y209 t212 _ ?side1 ?side2 A35.out).mono ?_); (case side1 => repeat (first | exact (Kd.R_reads' HO211.out).2.2 | (with_reducible refine Kd.C_alloc ?_ _) | (with_reducible refine Kd.C_drewN ?_ _) | (with_reducible refine Kd.C_drew ?_))); (case side2 => exact (Kd.R_reads' HO211.out).2.1); rintro e w39 ⟨rfl, hb⟩; refine ⟨_, rfl, ?_⟩; have n0_ := Aside0.mk (Kd.R_below (by (with_reducible repeat (first | apply Kd.R_alloc | apply Kd.R_drewN | apply Kd.R_drew)); exact HO211.out) hb); have n1_ := Aside0.mk (below_step (by repeat (first | (with_reducible first | exact HB.out | apply below_alloc | apply pw_below_drewN | apply below_drew1) | exact HB.out)) hb); clear HO211; clear HB; have HO211 := n0_; have HB := n1_; clear n0_ n1_; (try clear hb); (try clear hb2); (try clear hk); (try clear hi)))
            go_ret
            exact ⟨by first | rfl | (simp [errW_none, errW_some] <;> rfl) | (simp [*, errW_none, errW_some] <;> rfl), by repeat (first | (with_reducible first | exact HB.out | apply below_alloc | apply pw_below_drewN | apply below_drew1) | exact HB.out)⟩
          · rw [if_neg c34] at H
            have c34b0 : (t190 == 3) = false := beq_eq_false_iff_ne.mpr c34
            have c34b1 : (t190 != 3) = true := bne_iff_ne.mpr c34
            by_cases c40 : t190 = 4
            · rw [if_pos c40] at H
              have c40b0 : (t190 == 4) = true := beq_iff_eq.mpr c40
              have c40b1 : (t190 != 4) = false := bne_eq_false_iff_eq.mpr c40
              clear c40
              obtain ⟨y213, hy213⟩ : ∃ y_ : List (S65), y_ = (([(⟨0, 4, 2, 0⟩ : S65), (⟨1, 1, 2, 0⟩ : S65)] : List (S65))) := ⟨_, rfl⟩
              replace H : ((impl_FrameOk.f k 12 128 (wrap64 (128 + t189)) 0 y213).bind fun t216 => (some (t216 == (t189 == 0)))) = some r := by first | (rw [hy213]; with_reducible exact H) | (have H2_ := (Option.bind_some _ _).symm.trans H; rw [hy213]; with_reducible exact H2_) | (have H2_ := (Option.bind_some _ _).symm.trans H; with_reducible exact H2_) | with_reducible exact H | (rw [hy213]; exact H) | exact H
              have Ny213 := Aside0.mk hy213
              clear hy213
              replace H := Option.bind_eq_some_iff.mp H
              obtain ⟨t216, A410, H⟩ := H
              replace H : (some (t216 == (t189 == 0))) = some r := H
              have A41 := Aside0.mk A410
              clear A410
              obtain rfl := Option.some.inj H
              go_enter Try.func8, Try.ntmps8
              go_wp2_with (first | ((with_reducible refine gate_callee (f := 19) rfl ?_); refine goesL_ (some 12) rfl rfl Try.func19 (by kernel_rfl) rfl #[.slice A0 l0.length c0] rfl (by (try simp only [List.map_toArray, List.map_cons, List.map_nil]); first | done | rfl | (simp only [List.length_drop, List.length_take]; rfl)) ?_; (with_reducible refine (laws_big.calls _ _ l0 false _ ?side1 ?side2 A2.out).mono ?_); (case side1 => repeat (first | exact HR0.out | (with_reducible refine Kd.C_alloc ?_ _) | (with_reducible refine Kd.C_drewN ?_ _) | (with_reducible refine Kd.C_drew ?_))); (case side2 => exact HC0.out); rintro e w' ⟨rfl, ⟨nd, rfl⟩⟩; refine ⟨_, rfl, ?_⟩) | ((with_reducible refine gate_callee (f := 35) rfl ?_); refine goesL_ (some 14) rfl rfl Try.func35 (by kernel_rfl) rfl #[.slice A0 l0.length c0, .int .i64 1, .int .i64 2] rfl (by (try simp only [List.map_toArray, List.map_cons, List.map_nil]); first | done | rfl | (simp only [List.length_drop, List.length_take]; rfl)) ?_; (with_reducible refine (laws_pick.calls k _ _ l0 1 2 t189 _ ?side1 ?side2 A4.out).mono ?_); (case side1 => repeat (first | exact HR0.out | (with_reducible refine Kd.C_alloc ?_ _) | (with_reducible refine Kd.C_drewN ?_ _) | (with_reducible refine Kd.C_drew ?_))); (case side2 => exact HC0.out); rintro e w' ⟨rfl, ⟨nd, rfl⟩⟩; refine ⟨_, rfl, ?_⟩) | ((with_reducible refine gate_callee (f := 35) rfl ?_); refine goesL_ (some 18) rfl rfl Try.func35 (by kernel_rfl) rfl #[.slice A0 l0.length c0, .int .i64 0, .int .i64 8] rfl (by (try simp only [List.map_toArray, List.map_cons, List.map_nil]); first | done | rfl | (simp only [List.length_drop, List.length_take]; rfl)) ?_; (with_reducible refine (laws_pick.calls k _ _ l0 0 8 t190 _ ?side1 ?side2 A5.out).mono ?_); (case side1 => repeat (first | exact HR0.out | (with_reducible refine Kd.C_alloc ?_ _) | (with_reducible refine Kd.C_drewN ?_ _) | (with_reducible refine Kd.C_drew ?_))); (case side2 => exact HC0.out); rintro e w' ⟨rfl, ⟨nd, rfl⟩⟩; refine ⟨_, rfl, ?_⟩) | ((with_reducible refine gate_dst (N := 70) rfl ?_); refine Kd.R_lit k65 _ 65 ?hg (N := 70) ?hd (xs := ([(⟨0, 4, 2, 0⟩ : S65), (⟨1, 1, 2, 0⟩ : S65)] : List (S65))) (inner := [.int .i64 0, .int .i64 4, .int .i64 2, .int .i64 0, .int .i64 1, .int .i64 1, .int .i64 2, .int .i64 0]) (ok := fun _ => True) (okp := fun _ => True) ?hr ?hp (fun _ hk => hk) trivial (Below.refl _ _) (Nat.le_refl _) (by simp) ?_; (case hd => rfl); (case hg => rfl); (case hr => first | (go_simp; done) | (go_simp; rfl)); (case hp => exact (Reps.c4 (show Kd.M k65 _ _ _ (⟨0, 4, 2, 0⟩ : S65) [.int .i64 0, .int .i64 4, .int .i64 2, .int .i64 0] from (k65_mkM _ _ _ (⟨0, 4, 2, 0⟩ : S65) )) (Reps.c4 (show Kd.M k65 _ _ _ (⟨1, 1, 2, 0⟩ : S65) [.int .i64 1, .int .i64 1, .int .i64 2, .int .i64 0] from (k65_mkM _ _ _ (⟨1, 1, 2, 0⟩ : S65) )) (Reps.none _ _)))); intro v214 w42 ho43 hb hg_ hnew_; clear hg_ hnew_; (first | rw [← Ny213.out] at ho43 | (simp only [Int.reduceToNat] at ho43; rw [← Ny213.out] at ho43)); have n0_ := Aside0.mk (Kd.R_lower ho43 (below_size (by repeat (first | (with_reducible first | exact HB.out | apply below_alloc | apply pw_below_drewN | apply below_drew1) | exact HB.out)))); have n1_ := Aside0.mk (below_step (by repeat (first | (with_reducible first | exact HB.out | apply below_alloc | apply pw_below_drewN | apply below_drew1) | exact HB.out)) hb); clear HB; have HO215 := n0_; have HB := n1_; clear n0_ n1_; clear hb ho43; obtain ⟨Ao44, co44, eo44⟩ := Kd.R_slice HO215.out; subst eo44) | ((with_reducible refine gate_callee (f := 38) rfl ?_); refine goesL_ (some 72) rfl rfl Try.func38 (by kernel_rfl) rfl #[.agg #[.int .i64 12, .int .i64 128, .int .i64 (wrap64 (128 + t189)), .int .i64 0, .slice Ao44 y213.length co44]] rfl (by (try simp only [List.map_toArray, List.map_cons, List.map_nil]); first | done | rfl | (simp only [List.length_drop, List.length_take]; rfl)) ?_; (with_reducible refine (impl_FrameOk.calls k 12 128 (wrap64 (128 + t189)) 0 _ _ y213 t216 _ ?side1 ?side2 A41.out).mono ?_); (case side1 => repeat (first | exact (Kd.R_reads' HO215.out).2.2 | (with_reducible refine Kd.C_alloc ?_ _) | (with_reducible refine Kd.C_drewN ?_ _) | (with_reducible refine Kd.C_drew ?_))); (case side2 => exact (Kd.R_reads' HO215.out).2.1); rintro e w45 ⟨rfl, hb⟩; refine ⟨_, rfl, ?_⟩; have n0_ := Aside0.mk (Kd.R_below (by (with_reducible repeat (first | apply Kd.R_alloc | apply Kd.R_drewN | apply Kd.R_drew)); exact HO215.out) hb); have n1_ := Aside0.mk (below_step (by repeat (first | (with_reducible first | exact HB.out | apply below_alloc | apply pw_below_drewN | apply below_drew1) | exact HB.out)) hb); clear HO215; clear HB; have HO215 := n0_; have HB := n1_; clear n0_ n1_; (try clear hb); (try clear hb2); (try clear hk); (try clear hi)))
              go_ret
              exact ⟨by first | rfl | (simp [errW_none, errW_some] <;> rfl) | (simp [*, errW_none, errW_some] <;> rfl), by repeat (first | (with_reducible first | exact HB.out | apply below_alloc | apply pw_below_drewN | apply below_drew1) | exact HB.out)⟩
            · rw [if_neg c40] at H
              have c40b0 : (t190 == 4) = false := beq_eq_false_iff_ne.mpr c40
              have c40b1 : (t190 != 4) = true := bne_iff_ne.mpr c40
              by_cases c46 : t190 = 5
              · rw [if_pos c46] at H
                have c46b0 : (t190 == 5) = true := beq_iff_eq.mpr c46
                have c46b1 : (t190 != 5) = false := bne_eq_false_iff_eq.mpr c46
                clear c46
                obtain ⟨y217, hy217⟩ : ∃ y_ : List (S65), y_ = (([(⟨0, 1, 1, 0⟩ : S65)] : List (S65))) := ⟨_, rfl⟩
                replace H : (if 64 ≤ 35184372088832 then ((some (List.replicate 64 0 : List Int)).bind fun y221 => (if 9 < (y221.length : Int) then ((impl_CoefsOk.f k 8 8 8 0 y217 (([(([(y221.set (9 : Int).toNat (wrap64 ((-16383) - t189)))] : List (List Int)))] : List (List (List Int))))).bind fun t231 => (some (t231 == (t189 == 0)))) else (none))) else (none)) = some r := by first | (rw [hy217]; with_reducible exact H) | (have H2_ := (Option.bind_some _ _).symm.trans H; rw [hy217]; with_reducible exact H2_) | (have H2_ := (Option.bind_some _ _).symm.trans H; with_reducible exact H2_) | with_reducible exact H | (rw [hy217]; exact H) | exact H
                have Ny217 := Aside0.mk hy217
                clear hy217
                by_cases c47 : 64 ≤ 35184372088832
                · rw [if_pos c47] at H
                  have c47b0 := eq_true c47
                  have c47b1 : decide (64 ≤ 35184372088832) = true := decide_eq_true c47
                  clear c47
                  obtain ⟨y221, hy221⟩ : ∃ y_ : List Int, y_ = (List.replicate 64 0) := ⟨_, rfl⟩
                  replace H : (if 9 < (y221.length : Int) then ((impl_CoefsOk.f k 8 8 8 0 y217 (([(([(y221.set (9 : Int).toNat (wrap64 ((-16383) - t189)))] : List (List Int)))] : List (List (List Int))))).bind fun t231 => (some (t231 == (t189 == 0)))) else (none)) = some r := by first | (rw [hy221]; with_reducible exact H) | (have H2_ := (Option.bind_some _ _).symm.trans H; rw [hy221]; with_reducible exact H2_) | (have H2_ := (Option.bind_some _ _).symm.trans H; with_reducible exact H2_) | with_reducible exact H | (rw [hy221]; exact H) | exact H
                  have Ny221 := Aside0.mk hy221
                  clear hy221
                  by_cases c48 : 9 < (y221.length : Int)
                  · rw [if_pos c48] at H
                    have c48b0 : decide (9 < (y221.length : Int)) = true := decide_eq_true c48
                    have c48b1 : decide (9 < y221.length) = true := decide_eq_true (by omega)
                    clear c48
                    obtain ⟨y224, hy224⟩ : ∃ y_ : List Int, y_ = (y221.set (9 : Int).toNat (wrap64 ((-16383) - t189))) := ⟨_, rfl⟩
                    replace H : ((impl_CoefsOk.f k 8 8 8 0 y217 (([(([y224] : List (List Int)))] : List (List (List Int))))).bind fun t231 => (some (t231 == (t189 == 0)))) = some r := by first | (rw [hy224]; with_reducible exact H) | (have H2_ := (Option.bind_some _ _).symm.trans H; rw [hy224]; with_reducible exact H2_) | (have H2_ := (Option.bind_some _ _).symm.trans H; with_reducible exact H2_) | with_reducible exact H | (rw [hy224]; exact H) | exact H
                    have Ny224 := Aside0.mk hy224
                    clear hy224
                    obtain ⟨y225, hy225⟩ : ∃ y_ : List (List Int), y_ = (([y224] : List (List Int))) := ⟨_, rfl⟩
                    replace H : ((impl_CoefsOk.f k 8 8 8 0 y217 (([y225] : List (List (List Int))))).bind fun t231 => (some (t231 == (t189 == 0)))) = some r := by first | (rw [hy225]; with_reducible exact H) | (have H2_ := (Option.bind_some _ _).symm.trans H; rw [hy225]; with_reducible exact H2_) | (have H2_ := (Option.bind_some _ _).symm.trans H; with_reducible exact H2_) | with_reducible exact H | (rw [hy225]; exact H) | exact H
                    have Ny225 := Aside0.mk hy225
                    clear hy225
                    obtain ⟨y228, hy228⟩ : ∃ y_ : List (List (List Int)), y_ = (([y225] : List (List (List Int)))) := ⟨_, rfl⟩
                    replace H : ((impl_CoefsOk.f k 8 8 8 0 y217 y228).bind fun t231 => (some (t231 == (t189 == 0)))) = some r := by first | (rw [hy228]; with_reducible exact H) | (have H2_ := (Option.bind_some _ _).symm.trans H; rw [hy228]; with_reducible exact H2_) | (have H2_ := (Option.bind_some _ _).symm.trans H; with_reducible exact H2_) | with_reducible exact H | (rw [hy228]; exact H) | exact H
                    have Ny228 := Aside0.mk hy228
                    clear hy228
                    replace H := Option.bind_eq_some_iff.mp H
                    obtain ⟨t231, A500, H⟩ := H
                    replace H : (some (t231 == (t189 == 0))) = some r := H
                    have A50 := Aside0.mk A500
                    clear A500
                    obtain rfl := Option.some.inj H
                    go_enter Try.func8, Try.ntmps8
                    go_wp2_with (first | ((with_reducible refine gate_callee (f := 19) rfl ?_); refine goesL_ (some 12) rfl rfl Try.func19 (by kernel_rfl) rfl #[.slice A0 l0.length c0] rfl (by (try simp only [List.map_toArray, List.map_cons, List.map_nil]); first | done | rfl | (simp only [List.length_drop, List.length_take]; rfl)) ?_; (with_reducible refine (laws_big.calls _ _ l0 false _ ?side1 ?side2 A2.out).mono ?_); (case side1 => repeat (first | exact HR0.out | (with_reducible refine Kd.C_alloc ?_ _) | (with_reducible refine Kd.C_drewN ?_ _) | (with_reducible refine Kd.C_drew ?_))); (case side2 => exact HC0.out); rintro e w' ⟨rfl, ⟨nd, rfl⟩⟩; refine ⟨_, rfl, ?_⟩) | ((with_reducible refine gate_callee (f := 35) rfl ?_); refine goesL_ (some 14) rfl rfl Try.func35 (by kernel_rfl) rfl #[.slice A0 l0.length c0, .int .i64 1, .int .i64 2] rfl (by (try simp only [List.map_toArray, List.map_cons, List.map_nil]); first | done | rfl | (simp only [List.length_drop, List.length_take]; rfl)) ?_; (with_reducible refine (laws_pick.calls k _ _ l0 1 2 t189 _ ?side1 ?side2 A4.out).mono ?_); (case side1 => repeat (first | exact HR0.out | (with_reducible refine Kd.C_alloc ?_ _) | (with_reducible refine Kd.C_drewN ?_ _) | (with_reducible refine Kd.C_drew ?_))); (case side2 => exact HC0.out); rintro e w' ⟨rfl, ⟨nd, rfl⟩⟩; refine ⟨_, rfl, ?_⟩) | ((with_reducible refine gate_callee (f := 35) rfl ?_); refine goesL_ (some 18) rfl rfl Try.func35 (by kernel_rfl) rfl #[.slice A0 l0.length c0, .int .i64 0, .int .i64 8] rfl (by (try simp only [List.map_toArray, List.map_cons, List.map_nil]); first | done | rfl | (simp only [List.length_drop, List.length_take]; rfl)) ?_; (with_reducible refine (laws_pick.calls k _ _ l0 0 8 t190 _ ?side1 ?side2 A5.out).mono ?_); (case side1 => repeat (first | exact HR0.out | (with_reducible refine Kd.C_alloc ?_ _) | (with_reducible refine Kd.C_drewN ?_ _) | (with_reducible refine Kd.C_drew ?_))); (case side2 => exact HC0.out); rintro e w' ⟨rfl, ⟨nd, rfl⟩⟩; refine ⟨_, rfl, ?_⟩) | ((with_reducible refine gate_dst (N := 78) rfl ?_); refine Kd.R_lit k65 _ 65 ?hg (N := 78) ?hd (xs := ([(⟨0, 1, 1, 0⟩ : S65)] : List (S65))) (inner := [.int .i64 0, .int .i64 1, .int .i64 1, .int .i64 0]) (ok := fun _ => True) (okp := fun _ => True) ?hr ?hp (fun _ hk => hk) trivial (Below.refl _ _) (Nat.le_refl _) (by simp) ?_; (case hd => rfl); (case hg => rfl); (case hr => first | (go_simp; done) | (go_simp; rfl)); (case hp => exact (Reps.c4 (show Kd.M k65 _ _ _ (⟨0, 1, 1, 0⟩ : S65) [.int .i64 0, .int .i64 1, .int .i64 1, .int .i64 0] from (k65_mkM _ _ _ (⟨0, 1, 1, 0⟩ : S65) )) (Reps.none _ _))); intro v218 w51 ho52 hb hg_ hnew_; clear hg_ hnew_; (first | rw [← Ny217.out] at ho52 | (simp only [Int.reduceToNat] at ho52; rw [← Ny217.out] at ho52)); have n0_ := Aside0.mk (Kd.R_lower ho52 (below_size (by repeat (first | (with_reducible first | exact HB.out | apply below_alloc | apply pw_below_drewN | apply below_drew1) | exact HB.out)))); have n1_ := Aside0.mk (below_step (by repeat (first | (with_reducible first | exact HB.out | apply below_alloc | apply pw_below_drewN | apply below_drew1) | exact HB.out)) hb); clear HB; have HO219 := n0_; have HB := n1_; clear n0_ n1_; clear hb ho52; obtain ⟨Ao53, co53, eo53⟩ := Kd.R_slice HO219.out; subst eo53) | ((with_reducible refine gate_dst (N := 6) rfl ?_); refine box_event ?hg (N := 6) ?hd (cs := #[.int .i64 0, .int .i64 0, .int .i64 0, .int .i64 0, .slice none 0 0]) (t := 46) ?hr ?_; (case hd => rfl); (case hg => rfl); (case hr => first | (go_simp; done) | (go_simp; rfl)); intro gb220 hg w54 hbox hb; have n0_ := Aside0.mk (Kd.R_below (by (with_reducible repeat (first | apply Kd.R_alloc | apply Kd.R_drewN | apply Kd.R_drew)); exact HO219.out) hb); have n1_ := Aside0.mk (below_step (by repeat (first | (with_reducible first | exact HB.out | apply below_alloc | apply pw_below_drewN | apply below_drew1) | exact HB.out)) hb); have n2_ := Aside0.mk (hbox); have n3_ := Aside0.mk ((by rw [hg]; exact (below_size (by repeat (first | (with_reducible first | exact HB.out | apply below_alloc | apply pw_below_drewN | apply below_drew1) | exact HB.out))) : w.heap.size ≤ gb220)); have n4_ := Aside0.mk ((by rw [hg]; exact (below_size (by repeat (first | (with_reducible first | exact HB.out | apply below_alloc | apply pw_below_drewN | apply below_drew1) | exact HB.out))) : w.heap.size ≤ gb220)); clear HO219; clear HB; have HO219 := n0_; have HB := n1_; have BK220 := n2_; have GW220 := n3_; have GE220 := n4_; clear n0_ n1_ n2_ n3_ n4_; clear hb hbox hg; have hcz55_0 : w54.cell? ⟨gb220, 0, none⟩ = some (.int .i64 0) := (blk_cell BK220.out 0).trans rfl; have hcz55_1 : w54.cell? ⟨gb220, 1, none⟩ = some (.int .i64 0) := (blk_cell BK220.out 1).trans rfl; have hcz55_2 : w54.cell? ⟨gb220, 2, none⟩ = some (.int .i64 0) := (blk_cell BK220.out 2).trans rfl; have hcz55_3 : w54.cell? ⟨gb220, 3, none⟩ = some (.int .i64 0) := (blk_cell BK220.out 3).trans rfl; have hcz55_4 : w54.cell? ⟨gb220, 4, none⟩ = some (.slice none 0 0) := (blk_cell BK220.out 4).trans rfl; have hfz55_0 := blk_frozen BK220.out 0; have hfz55_1 := blk_frozen BK220.out 1; have hfz55_2 := blk_frozen BK220.out 2; have hfz55_3 := blk_frozen BK220.out 3; have hfz55_4 := blk_frozen BK220.out 4) | ((with_reducible refine gate_dst (N := 80) rfl ?_); refine Kd.R_make (Kd.int .i64) _ 3 rfl (N := 80) rfl 22 _ _ rfl 64 rfl rfl Try.underlying22 (.int .i64 0) 8 info3 rfl (by decide) (by omega) 0 (ok := fun _ => True) (okp := fun _ => True) rfl (fun _ hk => hk) trivial (by omega) (by omega) (Below.refl _ _) (Nat.le_refl _) ?_; intro v222 w56 ho57 hb hg_ hnew_; clear hg_ hnew_; (first | rw [← Ny221.out] at ho57 | (simp only [Int.reduceToNat] at ho57; rw [← Ny221.out] at ho57)); have n0_ := Aside0.mk (Kd.R_below (by (with_reducible repeat (first | apply Kd.R_alloc | apply Kd.R_drewN | apply Kd.R_drew)); exact (Kd.R_mono (Kd.R_far (p := ⟨gb220, 4, none⟩) (Kd.R_far (p := ⟨gb220, 3, none⟩) (Kd.R_far (p := ⟨gb220, 2, none⟩) (Kd.R_far (p := ⟨gb220, 1, none⟩) (Kd.R_far (p := ⟨gb220, 0, none⟩) (Kd.R_types HO219.out BK220.out (by decide)) (fun _ hk => hk.2) (.int .i64 8)) (fun _ hk => hk.2) (.int .i64 8)) (fun _ hk => hk.2) (.int .i64 8)) (fun _ hk => hk.2) (.int .i64 0)) (fun _ hk => hk.2) (.slice Ao53 y217.length co53)) (fun _ h_ => h_.1))) hb); have n1_ := Aside0.mk (Kd.R_lower ho57 (below_size (by repeat (first | (with_reducible first | exact HB.out | apply below_alloc | apply pw_below_drewN | apply below_drew1 | refine below_set ?_ GE220.out) | exact HB.out)))); have n2_ := Aside0.mk (blk_below (g := gb220) (o := .cells #[.int .i64 8, .int .i64 8, .int .i64 8, .int .i64 0, .slice Ao53 y217.length co53] 46 (0, 0)) (by (with_reducible repeat (first | refine blk_drewN ?_ _ | refine blk_drew ?_ | refine blk_alloc ?_ _)); refine blk_put (cs := #[.int .i64 8, .int .i64 8, .int .i64 8, .int .i64 0, .slice none 0 0]) ?_ 4 _ rfl; (with_reducible repeat (first | refine blk_drewN ?_ _ | refine blk_drew ?_ | refine blk_alloc ?_ _)); refine blk_put (cs := #[.int .i64 8, .int .i64 8, .int .i64 8, .int .i64 0, .slice none 0 0]) ?_ 3 _ rfl; (with_reducible repeat (first | refine blk_drewN ?_ _ | refine blk_drew ?_ | refine blk_alloc ?_ _)); refine blk_put (cs := #[.int .i64 8, .int .i64 8, .int .i64 0, .int .i64 0, .slice none 0 0]) ?_ 2 _ rfl; (with_reducible repeat (first | refine blk_drewN ?_ _ | refine blk_drew ?_ | refine blk_alloc ?_ _)); refine blk_put (cs := #[.int .i64 8, .int .i64 0, .int .i64 0, .int .i64 0, .slice none 0 0]) ?_ 1 _ rfl; (with_reducible repeat (first | refine blk_drewN ?_ _ | refine blk_drew ?_ | refine blk_alloc ?_ _)); refine blk_put (cs := #[.int .i64 0, .int .i64 0, .int .i64 0, .int .i64 0, .slice none 0 0]) ?_ 0 _ rfl; (with_reducible repeat (first | refine blk_drewN ?_ _ | refine blk_drew ?_ | refine blk_alloc ?_ _)); exact BK220.out) hb); have n3_ := Aside0.mk (below_step (by repeat (first | (with_reducible first | exact HB.out | apply below_alloc | apply pw_below_drewN | apply below_drew1 | refine below_set ?_ GE220.out) | exact HB.out)) hb); clear HO219; clear BK220; clear HB; have HO219 := n0_; have HO223 := n1_; have BK220 := n2_; have HB := n3_; clear n0_ n1_ n2_ n3_; clear hb ho57; have p49 : 0 ≤ (9 : Int) := (by omega); have q49 : (9 : Int) < ((y221.length : Int) : Int) := of_decide_eq_true (by first | (with_reducible assumption) | assumption); have qi49 : (9 < y221.length) = True := eq_true (by omega); obtain ⟨go49, co49, eo49, gb49, gl49, cl49, HG49⟩ := Kd.R_form HO223.out (by omega); (first | cases eo49 | (injection eo49 with ea_ en_ ec_; (first | subst ea_ | (injection ea_ with ea_; subst ea_)); subst ec_; clear en_)); have GB49 := Aside0.mk gb49; have GG49 := Aside0.mk HG49; clear gb49 gl49 HG49; obtain ⟨hx49_0, hf49_0⟩ := Kd.R_celln 0 HO223.out (9 : Int) p49 q49; (try rw [show ((9 : Int)).toNat = 9 from rfl] at hx49_0); (try simp only [Nat.reduceMul, Nat.zero_mul, Nat.zero_add, Nat.reduceAdd] at hx49_0); (try rw [show ((9 : Int)).toNat = 9 from rfl] at hf49_0); (try simp only [Nat.reduceMul, Nat.zero_mul, Nat.zero_add, Nat.reduceAdd] at hf49_0); replace p49 := eq_true p49; replace q49 := eq_true q49; obtain ⟨hy58_, hz58_⟩ := Kd.R_celln 0 HO223.out (9 : Int) (by omega) (of_decide_eq_true (by first | (with_reducible assumption) | assumption)); (try simp only [Int.reduceToNat, Int.toNat_zero, Int.toNat_ofNat, Nat.reduceMul, Nat.zero_mul, Nat.zero_add] at hy58_ hz58_); (try rw [show ((9 : Int)).toNat = 9 from rfl] at hy58_); (try rw [show ((9 : Int)).toNat = 9 from rfl] at hz58_); have HP58 := Kd.R_putg HO223.out (9 : Int) (wrap64 ((-16383) - t189))) | ((with_reducible refine gate_store (t := 3) (p := 84) rfl ?_); refine store_event (t := 3) (p := 84) (v := ?vo_w59) (w1 := (w56.setCell ⟨go49, (9 : Int).toNat, none⟩ (.int .i64 (wrap64 ((-16383) - t189))))) ?hg ?ho ?hn ?hr ?_; (case ho => rfl); (case hg => rfl); (case hn => rfl); (case hr => first | (go_simp; done) | (go_simp; rfl)); intro w59 hw; have hg : w56.grownBy w59 (some go49) := (by rw [hw]; exact HP58.2); have hp_ : Kd.R (Kd.int .i64) 3 w59 w.heap.size (fun _ => True) (.slice (some ⟨go49, 0, none⟩) y221.length co49) y224 := (by rw [hw, Ny224.out]; exact HP58.1); clear HP58; have n0_ := Aside0.mk (Kd.R_over' (v := (.slice (some ⟨go49, 0, none⟩) y221.length co49)) (by (with_reducible repeat (first | apply Kd.R_alloc | apply Kd.R_drewN | apply Kd.R_drew)); exact HO219.out) (Kd.R_typed HO223.out) (by decide) hg); have n1_ := Aside0.mk (blk_grown (g := gb220) (o := .cells #[.int .i64 8, .int .i64 8, .int .i64 8, .int .i64 0, .slice Ao53 y217.length co53] 46 (0, 0)) (by (with_reducible repeat (first | refine blk_drewN ?_ _ | refine blk_drew ?_ | refine blk_alloc ?_ _)); exact BK220.out) hg (Kd.R_ne HO223.out BK220.out (by decide))); have n2_ := Aside0.mk (hp_); have n3_ := Aside0.mk ((by rw [hw]; exact below_set (HB.out) GB49.out : Below w.heap.size w w59)); clear HO219; clear BK220; clear HO223; clear HB; have HO219 := n0_; have BK220 := n1_; have HO223 := n2_; have HB := n3_; clear n0_ n1_ n2_ n3_; clear hg hw hp_; have hcz60_0 : w59.cell? ⟨gb220, 0, none⟩ = some (.int .i64 8) := (blk_cell BK220.out 0).trans rfl; have hcz60_1 : w59.cell? ⟨gb220, 1, none⟩ = some (.int .i64 8) := (blk_cell BK220.out 1).trans rfl; have hcz60_2 : w59.cell? ⟨gb220, 2, none⟩ = some (.int .i64 8) := (blk_cell BK220.out 2).trans rfl; have hcz60_3 : w59.cell? ⟨gb220, 3, none⟩ = some (.int .i64 0) := (blk_cell BK220.out 3).trans rfl; have hcz60_4 : w59.cell? ⟨gb220, 4, none⟩ = some (.slice Ao53 y217.length co53) := (blk_cell BK220.out 4).trans rfl; have hfz60_0 := blk_frozen BK220.out 0; have hfz60_1 := blk_frozen BK220.out 1; have hfz60_2 := blk_frozen BK220.out 2; have hfz60_3 := blk_frozen BK220.out 3; have hfz60_4 := blk_frozen BK220.out 4) | ((with_reducible refine gate_dst (N := 87) rfl ?_); refine Kd.N_lit (Kd.slice 3 (Kd.int .i64)) _ 22 ?hg (N' := 87) ?hd (xs := ([y224] : List (List Int))) (inner := [.slice (some ⟨go49, 0, none⟩) y221.length co49]) (ok := (fun k_ => some k_ ≠ (.slice Ao53 y217.length co53 : Value).ownBlock ∧ k_ ≠ gb220)) (okp := (fun k_ => some k_ ≠ (.slice Ao53 y217.length co53 : Value).ownBlock ∧ k_ ≠ gb220)) ?hr ?hp (fun _ hk => hk) ((show ∀ k_, w59.heap.size ≤ k_ → (fun k_ => some k_ ≠ (.slice Ao53 y217.length co53 : Value).ownBlock ∧ k_ ≠ gb220) k_ from fun k_ hk => ⟨Kd.fresh' (Kd.R_lt (by (with_reducible repeat (first | apply Kd.R_alloc | apply Kd.R_drewN | apply Kd.R_drew)); exact HO219.out)) k_ hk, Kd.freshB (g := gb220) (o := .cells #[.int .i64 8, .int .i64 8, .int .i64 8, .int .i64 0, .slice Ao53 y217.length co53] 46 (0, 0)) (by (with_reducible repeat (first | refine blk_drewN ?_ _ | refine blk_drew ?_ | refine blk_alloc ?_ _)); exact BK220.out) k_ hk⟩) _ (Nat.le_refl _)) (Below.refl _ _) (Nat.le_refl _) (by simp) ?_; (case hd => rfl); (case hg => rfl); (case hr => first | (go_simp; done) | (go_simp; rfl)); (case hp => exact (Reps.one (show Kd.FK (Kd.slice 3 (Kd.int .i64)) _ _ y224 [.slice (some ⟨go49, 0, none⟩) y221.length co49] from (by have e_ := (Kd.R_reads' HO223.out).1; have h_ := Aside0.mk HO223.out; rw [e_] at h_; rw [e_]; exact (Kd.FK_slice_mk (Kd.R_reads' (Kd.R_mono (ok' := (fun k_ => some k_ ≠ (.slice Ao53 y217.length co53 : Value).ownBlock ∧ k_ ≠ gb220)) (Kd.R_types (Kd.R_apart' (h_.out) (Kd.R_typed HO219.out) (by decide)) BK220.out (by decide)) (fun k_ hk => ⟨hk.1.2, hk.2⟩))).2.1 (Kd.R_F (Kd.R_mono (ok' := (fun k_ => some k_ ≠ (.slice Ao53 y217.length co53 : Value).ownBlock ∧ k_ ≠ gb220)) (Kd.R_types (Kd.R_apart' (h_.out) (Kd.R_typed HO219.out) (by decide)) BK220.out (by decide)) (fun k_ hk => ⟨hk.1.2, hk.2⟩)))))) (Reps.none _ _))); intro v226 w61 ho62 hb hg_ hnew_; clear hg_ hnew_; (first | rw [← Ny225.out] at ho62 | (simp only [Int.reduceToNat] at ho62; rw [← Ny225.out] at ho62)); have n0_ := Aside0.mk (Kd.R_below (by (with_reducible repeat (first | apply Kd.R_alloc | apply Kd.R_drewN | apply Kd.R_drew)); exact HO219.out) hb); have n1_ := Aside0.mk (Kd.N_lower ho62 (below_size (by repeat (first | (with_reducible first | exact HB.out | apply below_alloc | apply pw_below_drewN | apply below_drew1 | refine below_set ?_ GE220.out) | exact HB.out)))); have n2_ := Aside0.mk (blk_below (g := gb220) (o := .cells #[.int .i64 8, .int .i64 8, .int .i64 8, .int .i64 0, .slice Ao53 y217.length co53] 46 (0, 0)) (by (with_reducible repeat (first | refine blk_drewN ?_ _ | refine blk_drew ?_ | refine blk_alloc ?_ _)); exact BK220.out) hb); have n3_ := Aside0.mk (below_step (by repeat (first | (with_reducible first | exact HB.out | apply below_alloc | apply pw_below_drewN | apply below_drew1 | refine below_set ?_ GE220.out) | exact HB.out)) hb); clear HO219; clear BK220; clear HB; clear HO223; have HO219 := n0_; have HO227 := n1_; have BK220 := n2_; have HB := n3_; clear n0_ n1_ n2_ n3_; clear hb ho62; obtain ⟨Ao63, co63, eo63⟩ := Kd.N_slice HO227.out; subst eo63) | ((with_reducible refine gate_dst (N := 88) rfl ?_); refine Kd.N_lit (Kd.slice 22 (Kd.slice 3 (Kd.int .i64))) _ 33 ?hg (N' := 88) ?hd (xs := ([y225] : List (List (List Int)))) (inner := [.slice Ao63 y225.length co63]) (ok := (fun k_ => some k_ ≠ (.slice Ao53 y217.length co53 : Value).ownBlock ∧ k_ ≠ gb220)) (okp := (fun k_ => some k_ ≠ (.slice Ao53 y217.length co53 : Value).ownBlock ∧ k_ ≠ gb220)) ?hr ?hp (fun _ hk => hk) ((show ∀ k_, w61.heap.size ≤ k_ → (fun k_ => some k_ ≠ (.slice Ao53 y217.length co53 : Value).ownBlock ∧ k_ ≠ gb220) k_ from fun k_ hk => ⟨Kd.fresh' (Kd.R_lt (by (with_reducible repeat (first | apply Kd.R_alloc | apply Kd.R_drewN | apply Kd.R_drew)); exact HO219.out)) k_ hk, Kd.freshB (g := gb220) (o := .cells #[.int .i64 8, .int .i64 8, .int .i64 8, .int .i64 0, .slice Ao53 y217.length co53] 46 (0, 0)) (by (with_reducible repeat (first | refine blk_drewN ?_ _ | refine blk_drew ?_ | refine blk_alloc ?_ _)); exact BK220.out) k_ hk⟩) _ (Nat.le_refl _)) (Below.refl _ _) (Nat.le_refl _) (by simp) ?_; (case hd => rfl); (case hg => rfl); (case hr => first | (go_simp; done) | (go_simp; rfl)); (case hp => exact (Reps.one (show Kd.FK (Kd.slice 22 (Kd.slice 3 (Kd.int .i64))) _ _ y225 [.slice Ao63 y225.length co63] from (Kd.FK_slice_mk (Kd.N_reads' (Kd.N_mono (ok' := (fun k_ => some k_ ≠ (.slice Ao53 y217.length co53 : Value).ownBlock ∧ k_ ≠ gb220)) (HO227.out) (fun k_ hk => ⟨hk.1, hk.2⟩))).2.1 (Kd.N_F (Kd.N_mono (ok' := (fun k_ => some k_ ≠ (.slice Ao53 y217.length co53 : Value).ownBlock ∧ k_ ≠ gb220)) (HO227.out) (fun k_ hk => ⟨hk.1, hk.2⟩))))) (Reps.none _ _))); intro v229 w64 ho65 hb hg_ hnew_; clear hg_ hnew_; (first | rw [← Ny228.out] at ho65 | (simp only [Int.reduceToNat] at ho65; rw [← Ny228.out] at ho65)); have n0_ := Aside0.mk (Kd.R_below (by (with_reducible repeat (first | apply Kd.R_alloc | apply Kd.R_drewN | apply Kd.R_drew)); exact HO219.out) hb); have n1_ := Aside0.mk (Kd.N_lower ho65 (below_size (by repeat (first | (with_reducible first | exact HB.out | apply below_alloc | apply pw_below_drewN | apply below_drew1 | refine below_set ?_ GE220.out) | exact HB.out)))); have n2_ := Aside0.mk (blk_below (g := gb220) (o := .cells #[.int .i64 8, .int .i64 8, .int .i64 8, .int .i64 0, .slice Ao53 y217.length co53] 46 (0, 0)) (by (with_reducible repeat (first | refine blk_drewN ?_ _ | refine blk_drew ?_ | refine blk_alloc ?_ _)); exact BK220.out) hb); have n3_ := Aside0.mk (below_step (by repeat (first | (with_reducible first | exact HB.out | apply below_alloc | apply pw_below_drewN | apply below_drew1 | refine below_set ?_ GE220.out) | exact HB.out)) hb); clear HO219; clear BK220; clear HB; clear HO227; have HO219 := n0_; have HO230 := n1_; have BK220 := n2_; have HB := n3_; clear n0_ n1_ n2_ n3_; clear hb ho65; obtain ⟨Ao66, co66, eo66⟩ := Kd.N_slice HO230.out; subst eo66) | ((with_reducible refine gate_callee (f := 39) rfl ?_); refine goesL_ (some 90) rfl rfl Try.func39 (by kernel_rfl) rfl #[.agg #[.int .i64 8, .int .i64 8, .int .i64 8, .int .i64 0, .slice Ao53 y217.length co53], .agg #[.slice Ao66 y228.length co66]] rfl (by (try simp only [List.map_toArray, List.map_cons, List.map_nil]); first | done | rfl | (simp only [List.length_drop, List.length_take]; rfl)) ?_; (with_reducible refine (impl_CoefsOk.calls k 8 8 8 0 _ _ y217 _ _ y228 t231 _ ?side1 ?side2 ?side3 ?side4 A50.out).mono ?_); (case side1 => repeat (first | exact (Kd.R_reads' HO219.out).2.2 | (with_reducible refine Kd.C_alloc ?_ _) | (with_reducible refine Kd.C_drewN ?_ _) | (with_reducible refine Kd.C_drew ?_))); (case side2 => exact (Kd.R_reads' HO219.out).2.1); (case side3 => repeat (first | exact (Kd.N_reads' HO230.out).2.2 | (with_reducible refine Kd.C_alloc ?_ _) | (with_reducible refine Kd.C_drewN ?_ _) | (with_reducible refine Kd.C_drew ?_))); (case side4 => exact (Kd.N_reads' HO230.out).2.1); rintro e w67 ⟨rfl, hb⟩; refine ⟨_, rfl, ?_⟩; have n0_ := Aside0.mk (Kd.R_below (by (with_reducible repeat (first | apply Kd.R_alloc | apply Kd.R_drewN | apply Kd.R_drew)); exact HO219.out) hb); have n1_ := Aside0.mk (Kd.N_below (by (with_reducible repeat (first | apply Kd.N_alloc | apply Kd.N_drewN | apply Kd.N_drew)); exact HO230.out) hb); have n2_ := Aside0.mk (blk_below (g := gb220) (o := .cells #[.int .i64 8, .int .i64 8, .int .i64 8, .int .i64 0, .slice Ao53 y217.length co53] 46 (0, 0)) (by (with_reducible repeat (first | refine blk_drewN ?_ _ | refine blk_drew ?_ | refine blk_alloc ?_ _)); exact BK220.out) hb); have n3_ := Aside0.mk (below_step (by repeat (first | (with_reducible first | exact HB.out | apply below_alloc | apply pw_below_drewN | apply below_drew1 | refine below_set ?_ GE220.out) | exact HB.out)) hb); clear HO219; clear HO230; clear BK220; clear HB; have HO219 := n0_; have HO230 := n1_; have BK220 := n2_; have HB := n3_; clear n0_ n1_ n2_ n3_; (try clear hb); (try clear hb2); (try clear hk); (try clear hi)))
                    go_ret
                    exact ⟨by first | rfl | (simp [errW_none, errW_some] <;> rfl) | (simp [*, errW_none, errW_some] <;> rfl), by repeat (first | (with_reducible first | exact HB.out | apply below_alloc | apply pw_below_drewN | apply below_drew1 | refine below_set ?_ GE220.out) | exact HB.out)⟩
                  · rw [if_neg c48] at H
                    exact absurd H (by simp)
                · rw [if_neg c47] at H
                  exact absurd H (by simp)
              · rw [if_neg c46] at H
                have c46b0 : (t190 == 5) = false := beq_eq_false_iff_ne.mpr c46
                have c46b1 : (t190 != 5) = true := bne_iff_ne.mpr c46
                by_cases c68 : t190 = 6
                · rw [if_pos c68] at H
                  have c68b0 : (t190 == 6) = true := beq_iff_eq.mpr c68
                  have c68b1 : (t190 != 6) = false := bne_eq_false_iff_eq.mpr c68
                  clear c68
                  obtain ⟨ji69, hji69⟩ : ∃ j_ : Int, (wrap64 (256 + t189)) = j_ := ⟨_, rfl⟩
                  replace H : (if 0 ≤ (ji69) then (if (ji69 : Int).toNat ≤ 35184372088832 then ((some (List.replicate (ji69 : Int).toNat 0 : List Int)).bind fun y232 => (if 0 < (y232.length : Int) then ((impl_LensOk.f k (y232.set (0 : Int).toNat 1)).bind fun t236 => (some (t236 == (t189 == 0)))) else (none))) else (none)) else (none)) = some r := by first | (rw [hji69] at H; exact H) | (simp only [hji69] at H ⊢; exact H)
                  (try rw [hji69] at A2)
                  (try rw [hji69] at A4)
                  (try rw [hji69] at A5)
                  have hji69w : (IntKind.i64.wrap (256 + t189)) = ji69 := (i64_w _).trans hji69
                  by_cases c70 : 0 ≤ (ji69)
                  · rw [if_pos c70] at H
                    have c70b0 := eq_true c70
                    have c70b1 : decide (0 ≤ (ji69)) = true := decide_eq_true c70
                    clear c70
                    by_cases c71 : (ji69 : Int).toNat ≤ 35184372088832
                    · rw [if_pos c71] at H
                      have c71b0 := eq_true c71
                      have c71b1 : decide ((ji69 : Int).toNat ≤ 35184372088832) = true := decide_eq_true c71
                      clear c71
                      obtain ⟨y232, hy232⟩ : ∃ y_ : List Int, y_ = (List.replicate (ji69 : Int).toNat 0) := ⟨_, rfl⟩
                      replace H : (if 0 < (y232.length : Int) then ((impl_LensOk.f k (y232.set (0 : Int).toNat 1)).bind fun t236 => (some (t236 == (t189 == 0)))) else (none)) = some r := by first | (rw [hy232]; with_reducible exact H) | (have H2_ := (Option.bind_some _ _).symm.trans H; rw [hy232]; with_reducible exact H2_) | (have H2_ := (Option.bind_some _ _).symm.trans H; with_reducible exact H2_) | with_reducible exact H | (rw [hy232]; exact H) | exact H
                      have Ny232 := Aside0.mk hy232
                      clear hy232
                      by_cases c72 : 0 < (y232.length : Int)
                      · rw [if_pos c72] at H
                        have c72b0 : decide (0 < (y232.length : Int)) = true := decide_eq_true c72
                        have c72b1 : decide (0 < y232.length) = true := decide_eq_true (by omega)
                        clear c72
                        obtain ⟨y235, hy235⟩ : ∃ y_ : List Int, y_ = (y232.set (0 : Int).toNat 1) := ⟨_, rfl⟩
                        replace H : ((impl_LensOk.f k y235).bind fun t236 => (some (t236 == (t189 == 0)))) = some r := by first | (rw [hy235]; with_reducible exact H) | (have H2_ := (Option.bind_some _ _).symm.trans H; rw [hy235]; with_reducible exact H2_) | (have H2_ := (Option.bind_some _ _).symm.trans H; with_reducible exact H2_) | with_reducible exact H | (rw [hy235]; exact H) | exact H
                        have Ny235 := Aside0.mk hy235
                        clear hy235
                        replace H := Option.bind_eq_some_iff.mp H
                        obtain ⟨t236, A740, H⟩ := H
                        replace H : (some (t236 == (t189 == 0))) = some r := H
                        have A74 := Aside0.mk A740
                        clear A740
                        obtain rfl := Option.some.inj H
                        go_enter Try.func8, Try.ntmps8
                        go_wp2_with (first | ((with_reducible refine gate_callee (f := 19) rfl ?_); refine goesL_ (some 12) rfl rfl Try.func19 (by kernel_rfl) rfl #[.slice A0 l0.length c0] rfl (by (try simp only [List.map_toArray, List.map_cons, List.map_nil]); first | done | rfl | (simp only [List.length_drop, List.length_take]; rfl)) ?_; (with_reducible refine (laws_big.calls _ _ l0 false _ ?side1 ?side2 A2.out).mono ?_); (case side1 => repeat (first | exact HR0.out | (with_reducible refine Kd.C_alloc ?_ _) | (with_reducible refine Kd.C_drewN ?_ _) | (with_reducible refine Kd.C_drew ?_))); (case side2 => exact HC0.out); rintro e w' ⟨rfl, ⟨nd, rfl⟩⟩; refine ⟨_, rfl, ?_⟩) | ((with_reducible refine gate_callee (f := 35) rfl ?_); refine goesL_ (some 14) rfl rfl Try.func35 (by kernel_rfl) rfl #[.slice A0 l0.length c0, .int .i64 1, .int .i64 2] rfl (by (try simp only [List.map_toArray, List.map_cons, List.map_nil]); first | done | rfl | (simp only [List.length_drop, List.length_take]; rfl)) ?_; (with_reducible refine (laws_pick.calls k _ _ l0 1 2 t189 _ ?side1 ?side2 A4.out).mono ?_); (case side1 => repeat (first | exact HR0.out | (with_reducible refine Kd.C_alloc ?_ _) | (with_reducible refine Kd.C_drewN ?_ _) | (with_reducible refine Kd.C_drew ?_))); (case side2 => exact HC0.out); rintro e w' ⟨rfl, ⟨nd, rfl⟩⟩; refine ⟨_, rfl, ?_⟩) | ((with_reducible refine gate_callee (f := 35) rfl ?_); refine goesL_ (some 18) rfl rfl Try.func35 (by kernel_rfl) rfl #[.slice A0 l0.length c0, .int .i64 0, .int .i64 8] rfl (by (try simp only [List.map_toArray, List.map_cons, List.map_nil]); first | done | rfl | (simp only [List.length_drop, List.length_take]; rfl)) ?_; (with_reducible refine (laws_pick.calls k _ _ l0 0 8 t190 _ ?side1 ?side2 A5.out).mono ?_); (case side1 => repeat (first | exact HR0.out | (with_reducible refine Kd.C_alloc ?_ _) | (with_reducible refine Kd.C_drewN ?_ _) | (with_reducible refine Kd.C_drew ?_))); (case side2 => exact HC0.out); rintro e w' ⟨rfl, ⟨nd, rfl⟩⟩; refine ⟨_, rfl, ?_⟩) | ((with_reducible refine gate_dst (N := 97) rfl ?_); refine Kd.R_make (Kd.int .i64) _ 3 rfl (N := 97) rfl 22 _ _ rfl ji69 rfl rfl Try.underlying22 (.int .i64 0) 8 info3 rfl (by decide) (by omega) 0 (ok := fun _ => True) (okp := fun _ => True) rfl (fun _ hk => hk) trivial (of_decide_eq_true (by first | (with_reducible assumption) | assumption)) (Nat.le_trans (Nat.mul_le_mul_right _ (of_decide_eq_true (by first | (with_reducible assumption) | assumption) : ji69.toNat ≤ 35184372088832)) (by omega)) (Below.refl _ _) (Nat.le_refl _) ?_; intro v233 w75 ho76 hb hg_ hnew_; clear hg_ hnew_; (first | rw [← Ny232.out] at ho76 | (simp only [Int.reduceToNat] at ho76; rw [← Ny232.out] at ho76)); have n0_ := Aside0.mk (Kd.R_lower ho76 (below_size (by repeat (first | (with_reducible first | exact HB.out | apply below_alloc | apply pw_below_drewN | apply below_drew1) | exact HB.out)))); have n1_ := Aside0.mk (below_step (by repeat (first | (with_reducible first | exact HB.out | apply below_alloc | apply pw_below_drewN | apply below_drew1) | exact HB.out)) hb); clear HB; have HO234 := n0_; have HB := n1_; clear n0_ n1_; clear hb ho76; have p73 : 0 ≤ (0 : Int) := (by omega); have q73 : (0 : Int) < ((y232.length : Int) : Int) := of_decide_eq_true (by first | (with_reducible assumption) | assumption); have qi73 : (0 < y232.length) = True := eq_true (by omega); obtain ⟨go73, co73, eo73, gb73, gl73, cl73, HG73⟩ := Kd.R_form HO234.out (by omega); (first | cases eo73 | (injection eo73 with ea_ en_ ec_; (first | subst ea_ | (injection ea_ with ea_; subst ea_)); subst ec_; clear en_)); have GB73 := Aside0.mk gb73; have GG73 := Aside0.mk HG73; clear gb73 gl73 HG73; obtain ⟨hx73_0, hf73_0⟩ := Kd.R_celln 0 HO234.out (0 : Int) p73 q73; (try rw [show ((0 : Int)).toNat = 0 from rfl] at hx73_0); (try simp only [Nat.reduceMul, Nat.zero_mul, Nat.zero_add, Nat.reduceAdd] at hx73_0); (try rw [show ((0 : Int)).toNat = 0 from rfl] at hf73_0); (try simp only [Nat.reduceMul, Nat.zero_mul, Nat.zero_add, Nat.reduceAdd] at hf73_0); replace p73 := eq_true p73; replace q73 := eq_true q73; obtain ⟨hy77_, hz77_⟩ := Kd.R_celln 0 HO234.out (0 : Int) (by omega) (of_decide_eq_true (by first | (with_reducible assumption) | assumption)); (try simp only [Int.reduceToNat, Int.toNat_zero, Int.toNat_ofNat, Nat.reduceMul, Nat.zero_mul, Nat.zero_add] at hy77_ hz77_); (try rw [show ((0 : Int)).toNat = 0 from rfl] at hy77_); (try rw [show ((0 : Int)).toNat = 0 from rfl] at hz77_); have HP77 := Kd.R_putg HO234.out (0 : Int) 1) | ((with_reducible refine gate_store (t := 3) (p := 99) rfl ?_); refine store_event (t := 3) (p := 99) (v := ?vo_w78) (w1 := (w75.setCell ⟨go73, (0 : Int).toNat, none⟩ (.int .i64 1))) ?hg ?ho ?hn ?hr ?_; (case ho => rfl); (case hg => rfl); (case hn => rfl); (case hr => first | (go_simp; done) | (go_simp; rfl)); intro w78 hw; have hg : w75.grownBy w78 (some go73) := (by rw [hw]; exact HP77.2); have hp_ : Kd.R (Kd.int .i64) 3 w78 w.heap.size (fun _ => True) (.slice (some ⟨go73, 0, none⟩) y232.length co73) y235 := (by rw [hw, Ny235.out]; exact HP77.1); clear HP77; have n0_ := Aside0.mk (hp_); have n1_ := Aside0.mk ((by rw [hw]; exact below_set (HB.out) GB73.out : Below w.heap.size w w78)); clear HO234; clear HB; have HO234 := n0_; have HB := n1_; clear n0_ n1_; clear hg hw hp_) | ((with_reducible refine gate_callee (f := 40) rfl ?_); refine goesL_ (some 101) rfl rfl Try.func40 (by kernel_rfl) rfl #[.slice (some ⟨go73, 0, none⟩) y235.length co73] rfl (by (try simp only [List.map_toArray, List.map_cons, List.map_nil]); first | done | (rw [show y235.length = y232.length from (Kd.R_reads' HO234.out).1.symm] <;> rfl) | rfl | (simp only [List.length_drop, List.length_take]; rfl)) ?_; (with_reducible refine (impl_LensOk.calls k _ _ y235 t236 _ ?side1 ?side2 A74.out).mono ?_); (case side1 => repeat (first | exact (Kd.R_reads' HO234.out).2.2 | (with_reducible refine Kd.C_alloc ?_ _) | (with_reducible refine Kd.C_drewN ?_ _) | (with_reducible refine Kd.C_drew ?_))); (case side2 => rw [show y235.length = y232.length from (Kd.R_reads' HO234.out).1.symm]; exact (Kd.R_reads' HO234.out).2.1); rintro e w' ⟨rfl, ⟨nd, rfl⟩⟩; refine ⟨_, rfl, ?_⟩))
                        go_ret
                        exact ⟨by first | rfl | (simp [errW_none, errW_some] <;> rfl) | (simp only [← hji69]; first | rfl | (simp [errW_none, errW_some] <;> rfl)) | (simp [*, errW_none, errW_some] <;> rfl), by repeat (first | (with_reducible first | exact HB.out | apply below_alloc | apply pw_below_drewN | apply below_drew1) | exact HB.out)⟩
                      · rw [if_neg c72] at H
                        exact absurd H (by simp)
                    · rw [if_neg c71] at H
                      exact absurd H (by simp)
                  · rw [if_neg c70] at H
                    exact absurd H (by simp)
                · rw [if_neg c68] at H
                  have c68b0 : (t190 == 6) = false := beq_eq_false_iff_ne.mpr c68
                  have c68b1 : (t190 != 6) = true := bne_iff_ne.mpr c68
                  by_cases c79 : 64 ≤ 35184372088832
                  · rw [if_pos c79] at H
                    have c79b0 := eq_true c79
                    have c79b1 : decide (64 ≤ 35184372088832) = true := decide_eq_true c79
                    clear c79
                    obtain ⟨y237, hy237⟩ : ∃ y_ : List Int, y_ = (List.replicate 64 0) := ⟨_, rfl⟩
                    replace H : (laws_FnLimits.l1 k t189 (t189 == 0) y237 0) = some r := by first | (rw [hy237]; with_reducible exact H) | (have H2_ := (Option.bind_some _ _).symm.trans H; rw [hy237]; with_reducible exact H2_) | (have H2_ := (Option.bind_some _ _).symm.trans H; with_reducible exact H2_) | with_reducible exact H | (rw [hy237]; exact H) | exact H
                    have Ny237 := Aside0.mk hy237
                    clear hy237
                    have H' := Aside0.mk H
                    clear H
                    go_enter Try.func8, Try.ntmps8
                    go_wp2_with (first | ((with_reducible refine gate_callee (f := 19) rfl ?_); refine goesL_ (some 12) rfl rfl Try.func19 (by kernel_rfl) rfl #[.slice A0 l0.length c0] rfl (by (try simp only [List.map_toArray, List.map_cons, List.map_nil]); first | done | rfl | (simp only [List.length_drop, List.length_take]; rfl)) ?_; (with_reducible refine (laws_big.calls _ _ l0 false _ ?side1 ?side2 A2.out).mono ?_); (case side1 => repeat (first | exact HR0.out | (with_reducible refine Kd.C_alloc ?_ _) | (with_reducible refine Kd.C_drewN ?_ _) | (with_reducible refine Kd.C_drew ?_))); (case side2 => exact HC0.out); rintro e w' ⟨rfl, ⟨nd, rfl⟩⟩; refine ⟨_, rfl, ?_⟩) | ((with_reducible refine gate_callee (f := 35) rfl ?_); refine goesL_ (some 14) rfl rfl Try.func35 (by kernel_rfl) rfl #[.slice A0 l0.length c0, .int .i64 1, .int .i64 2] rfl (by (try simp only [List.map_toArray, List.map_cons, List.map_nil]); first | done | rfl | (simp only [List.length_drop, List.length_take]; rfl)) ?_; (with_reducible refine (laws_pick.calls k _ _ l0 1 2 t189 _ ?side1 ?side2 A4.out).mono ?_); (case side1 => repeat (first | exact HR0.out | (with_reducible refine Kd.C_alloc ?_ _) | (with_reducible refine Kd.C_drewN ?_ _) | (with_reducible refine Kd.C_drew ?_))); (case side2 => exact HC0.out); rintro e w' ⟨rfl, ⟨nd, rfl⟩⟩; refine ⟨_, rfl, ?_⟩) | ((with_reducible refine gate_callee (f := 35) rfl ?_); refine goesL_ (some 18) rfl rfl Try.func35 (by kernel_rfl) rfl #[.slice A0 l0.length c0, .int .i64 0, .int .i64 8] rfl (by (try simp only [List.map_toArray, List.map_cons, List.map_nil]); first | done | rfl | (simp only [List.length_drop, List.length_take]; rfl)) ?_; (with_reducible refine (laws_pick.calls k _ _ l0 0 8 t190 _ ?side1 ?side2 A5.out).mono ?_); (case side1 => repeat (first | exact HR0.out | (with_reducible refine Kd.C_alloc ?_ _) | (with_reducible refine Kd.C_drewN ?_ _) | (with_reducible refine Kd.C_drew ?_))); (case side2 => exact HC0.out); rintro e w' ⟨rfl, ⟨nd, rfl⟩⟩; refine ⟨_, rfl, ?_⟩) | ((with_reducible refine gate_dst (N := 104) rfl ?_); refine Kd.R_make (Kd.int .i64) _ 3 rfl (N := 104) rfl 22 _ _ rfl 64 rfl rfl Try.underlying22 (.int .i64 0) 8 info3 rfl (by decide) (by omega) 0 (ok := fun _ => True) (okp := fun _ => True) rfl (fun _ hk => hk) trivial (by omega) (by omega) (Below.refl _ _) (Nat.le_refl _) ?_; intro v238 w80 ho81 hb hg_ hnew_; clear hg_ hnew_; (first | rw [← Ny237.out] at ho81 | (simp only [Int.reduceToNat] at ho81; rw [← Ny237.out] at ho81)); have n0_ := Aside0.mk (Kd.R_lower ho81 (below_size (by repeat (first | (with_reducible first | exact HB.out | apply below_alloc | apply pw_below_drewN | apply below_drew1) | exact HB.out)))); have n1_ := Aside0.mk (below_step (by repeat (first | (with_reducible first | exact HB.out | apply below_alloc | apply pw_below_drewN | apply below_drew1) | exact HB.out)) hb); clear HB; have HO239 := n0_; have HB := n1_; clear n0_ n1_; clear hb ho81))
                    go_loopg [10] k (fun kq v10 w' => ∃ (x9_1 : List Int) (x10_1 : Int), v10 = .int .i64 x10_1 ∧ Aside0 (laws_FnLimits.l1 kq t189 (t189 == 0) x9_1 x10_1 = some r) ∧ Aside0 (kq ≤ k) ∧ Aside0 (Kd.R (Kd.int .i64) 3 w' w.heap.size (fun _ => True) v238 x9_1) ∧ Aside0 (Below w.heap.size w w'))
                    case atStart => exact ⟨(y237), (0), (by first | rfl | (simp; done) | (simp [*]; done)), H', ⟨Nat.le_refl _⟩, ⟨by (with_reducible repeat (first | apply Kd.R_alloc | apply Kd.R_drewN | apply Kd.R_drew)); exact HO239.out⟩, ⟨by repeat (first | (with_reducible first | exact HB.out | apply below_alloc | apply pw_below_drewN | apply below_drew1) | exact HB.out)⟩⟩
                    case round =>
                      clear H'
                      try clear c1
                      try clear c2
                      try clear p2
                      try clear c3
                      try clear c4
                      try clear p4
                      try clear q4
                      try clear hx4
                      try clear qi4
                      try clear hf4
                      try clear c6
                      try clear c6b0
                      try clear c6b1
                      try clear p6
                      try clear c7
                      try clear p7
                      try clear q7
                      try clear hx7
                      try clear qi7
                      try clear hf7
                      try clear c8
                      try clear c12
                      try clear c12b0
                      try clear c12b1
                      try clear c15
                      try clear c15b0
                      try clear c16
                      try clear c19
                      try clear c22
                      try clear c22b0
                      try clear c22b1
                      try clear c24
                      try clear c24b0
                      try clear c24b1
                      try clear c25
                      try clear c25b0
                      try clear c25b1
                      try clear c34
                      try clear c34b0
                      try clear c34b1
                      try clear c35
                      try clear c36
                      try clear c37
                      try clear c38
                      try clear c39
                      try clear c40
                      try clear c40b0
                      try clear c40b1
                      try clear c46
                      try clear c46b0
                      try clear c46b1
                      try clear c47
                      try clear c47b0
                      try clear c47b1
                      try clear c48
                      try clear c48b0
                      try clear c48b1
                      try clear p49
                      try clear q49
                      try clear hx49
                      try clear qi49
                      try clear hf49
                      try clear p64
                      try clear c68
                      try clear c68b0
                      try clear c68b1
                      try clear c70
                      try clear c70b0
                      try clear c70b1
                      try clear c71
                      try clear c71b0
                      try clear c71b1
                      try clear c72
                      try clear c72b0
                      try clear c72b1
                      try clear p73
                      try clear q73
                      try clear hx73
                      try clear qi73
                      try clear hf73
                      try clear c79
                      try clear c79b0
                      try clear c79b1
                      try clear hcz55_0
                      try clear hcz55_1
                      try clear hcz55_2
                      try clear hcz55_3
                      try clear hcz55_4
                      try clear hcz60_0
                      try clear hcz60_1
                      try clear hcz60_2
                      try clear hcz60_3
                      try clear hcz60_4
                      try clear hfz55_0
                      try clear hfz55_1
                      try clear hfz55_2
                      try clear hfz55_3
                      try clear hfz55_4
                      try clear hfz60_0
                      try clear hfz60_1
                      try clear hfz60_2
                      try clear hfz60_3
                      try clear hfz60_4
                      try clear hx49_0
                      try clear hx73_0
                      try clear p2
                      try clear p49
                      try clear p6
                      try clear p73
                      try clear q49
                      try clear q73
                      obtain ⟨x9_1, x10_1, rfl, HA, HK1, HO_9, HB⟩ := hrel
                      cases gk with
                      | zero => exact absurd HA.out (by simp [laws_FnLimits.l1])
                      | succ k1 =>
                        have H := HA.out
                        clear HA
                        simp only [laws_FnLimits.l1] at H
                        by_cases c82 : x10_1 < 64
                        · rw [if_pos c82] at H
                          have c82b0 : decide (x10_1 < 64) = true := decide_eq_true c82
                          clear c82
                          by_cases c83 : 0 ≤ x10_1
                          · rw [if_pos c83] at H
                            have c83b0 : decide (0 ≤ x10_1) = true := decide_eq_true c83
                            clear c83
                            by_cases c84 : x10_1 < (x9_1.length : Int)
                            · rw [if_pos c84] at H
                              have c84b0 : decide (x10_1 < (x9_1.length : Int)) = true := decide_eq_true c84
                              clear c84
                              obtain ⟨y240, hy240⟩ : ∃ y_ : List Int, y_ = (x9_1.set (x10_1 : Int).toNat 1023) := ⟨_, rfl⟩
                              replace H : (laws_FnLimits.l1 k1 t189 (t189 == 0) y240 (wrap64 (x10_1 + 1))) = some r := by first | (rw [hy240]; with_reducible exact H) | (have H2_ := (Option.bind_some _ _).symm.trans H; rw [hy240]; with_reducible exact H2_) | (have H2_ := (Option.bind_some _ _).symm.trans H; with_reducible exact H2_) | with_reducible exact H | (rw [hy240]; exact H) | exact H
                              have Ny240 := Aside0.mk hy240
                              clear hy240
                              have H' := Aside0.mk H
                              clear H
                              have p85 : 0 ≤ (x10_1 : Int) := of_decide_eq_true (by first | (with_reducible assumption) | assumption)
                              have q85 : (x10_1 : Int) < ((x9_1.length : Int) : Int) := of_decide_eq_true (by first | (with_reducible assumption) | assumption)
                              obtain ⟨go85, co85, eo85, gb85, gl85, cl85, HG85⟩ := Kd.R_form HO_9.out (by omega)
                              (first | cases eo85 | (injection eo85 with ea_ en_ ec_; (first | subst ea_ | (injection ea_ with ea_; subst ea_)); subst ec_; clear en_))
                              have GB85 := Aside0.mk gb85
                              have GG85 := Aside0.mk HG85
                              clear gb85 gl85 HG85
                              obtain ⟨hx85_0, hf85_0⟩ := Kd.R_celln 0 HO_9.out (x10_1 : Int) p85 q85
                              replace p85 := eq_true p85
                              replace q85 := eq_true q85
                              have HP86 := Kd.R_putg HO_9.out (x10_1 : Int) 1023
                              go_wp2_with (first | ((with_reducible refine gate_store (t := 3) (p := 111) rfl ?_); refine store_event (t := 3) (p := 111) (v := ?vo_w87) (w1 := (wr.setCell ⟨go85, (x10_1 : Int).toNat, none⟩ (.int .i64 1023))) ?hg ?ho ?hn ?hr ?_; (case ho => rfl); (case hg => rfl); (case hn => rfl); (case hr => first | (go_simp; done) | (go_simp; rfl)); intro w87 hw; have hg : wr.grownBy w87 (some go85) := (by rw [hw]; exact HP86.2); have hp_ : Kd.R (Kd.int .i64) 3 w87 w.heap.size (fun _ => True) (.slice (some ⟨go85, 0, none⟩) x9_1.length co85) y240 := (by rw [hw, Ny240.out]; exact HP86.1); clear HP86; have n0_ := Aside0.mk (hp_); have n1_ := Aside0.mk ((by rw [hw]; exact below_set (HB.out) GB85.out : Below w.heap.size w w87)); clear HO_9; clear HB; have HO_9 := n0_; have HB := n1_; clear n0_ n1_; clear hg hw hp_))
                              go_roundg k1
                              case measure => have := HK1.out; omega
                              case rel => exact ⟨(y240), (wrap64 (x10_1 + 1)), (by first | rfl | (simp; done) | (simp [*]; done)), H', ⟨by have := HK1.out; omega⟩, ⟨by (with_reducible repeat (first | apply Kd.R_alloc | apply Kd.R_drewN | apply Kd.R_drew)); exact HO_9.out⟩, ⟨by repeat (first | (with_reducible first | exact HB.out | apply below_alloc | apply pw_below_drewN | apply below_drew1) | exact HB.out)⟩⟩
                            · rw [if_neg c84] at H
                              exact absurd H (by simp)
                          · rw [if_neg c83] at H
                            exact absurd H (by simp)
                        · rw [if_neg c82] at H
                          have c82b0 : decide (x10_1 < 64) = false := decide_eq_false c82
                          clear c82
                          by_cases c88 : 7 < (x9_1.length : Int)
                          · rw [if_pos c88] at H
                            have c88b0 : decide (7 < (x9_1.length : Int)) = true := decide_eq_true c88
                            have c88b1 : decide (7 < x9_1.length) = true := decide_eq_true (by omega)
                            clear c88
                            obtain ⟨y241, hy241⟩ : ∃ y_ : List Int, y_ = (x9_1.set (7 : Int).toNat (wrap64 (1023 + t189))) := ⟨_, rfl⟩
                            replace H : ((impl_TableOk.f k1 y241).bind fun t242 => (some (t242 == (t189 == 0)))) = some r := by first | (rw [hy241]; with_reducible exact H) | (have H2_ := (Option.bind_some _ _).symm.trans H; rw [hy241]; with_reducible exact H2_) | (have H2_ := (Option.bind_some _ _).symm.trans H; with_reducible exact H2_) | with_reducible exact H | (rw [hy241]; exact H) | exact H
                            have Ny241 := Aside0.mk hy241
                            clear hy241
                            replace H := Option.bind_eq_some_iff.mp H
                            obtain ⟨t242, A900, H⟩ := H
                            replace H : (some (t242 == (t189 == 0))) = some r := H
                            have A90 := Aside0.mk A900
                            clear A900
                            obtain rfl := Option.some.inj H
                            have p89 : 0 ≤ (7 : Int) := (by omega)
                            have q89 : (7 : Int) < ((x9_1.length : Int) : Int) := of_decide_eq_true (by first | (with_reducible assumption) | assumption)
                            have qi89 : (7 < x9_1.length) = True := eq_true (by omega)
                            obtain ⟨go89, co89, eo89, gb89, gl89, cl89, HG89⟩ := Kd.R_form HO_9.out (by omega)
                            (first | cases eo89 | (injection eo89 with ea_ en_ ec_; (first | subst ea_ | (injection ea_ with ea_; subst ea_)); subst ec_; clear en_))
                            have GB89 := Aside0.mk gb89
                            have GG89 := Aside0.mk HG89
                            clear gb89 gl89 HG89
                            obtain ⟨hx89_0, hf89_0⟩ := Kd.R_celln 0 HO_9.out (7 : Int) p89 q89
                            (try rw [show ((7 : Int)).toNat = 7 from rfl] at hx89_0)
                            (try simp only [Nat.reduceMul, Nat.zero_mul, Nat.zero_add, Nat.reduceAdd] at hx89_0)
                            (try rw [show ((7 : Int)).toNat = 7 from rfl] at hf89_0)
                            (try simp only [Nat.reduceMul, Nat.zero_mul, Nat.zero_add, Nat.reduceAdd] at hf89_0)
                            replace p89 := eq_true p89
                            replace q89 := eq_true q89
                            have HP91 := Kd.R_putg HO_9.out (7 : Int) (wrap64 (1023 + t189))
                            go_wp2_with (first | ((with_reducible refine gate_store (t := 3) (p := 115) rfl ?_); refine store_event (t := 3) (p := 115) (v := ?vo_w92) (w1 := (wr.setCell ⟨go89, (7 : Int).toNat, none⟩ (.int .i64 (wrap64 (1023 + t189))))) ?hg ?ho ?hn ?hr ?_; (case ho => rfl); (case hg => rfl); (case hn => rfl); (case hr => first | (go_simp; done) | (go_simp; rfl)); intro w92 hw; have hg : wr.grownBy w92 (some go89) := (by rw [hw]; exact HP91.2); have hp_ : Kd.R (Kd.int .i64) 3 w92 w.heap.size (fun _ => True) (.slice (some ⟨go89, 0, none⟩) x9_1.length co89) y241 := (by rw [hw, Ny241.out]; exact HP91.1); clear HP91; have n0_ := Aside0.mk (hp_); have n1_ := Aside0.mk ((by rw [hw]; exact below_set (HB.out) GB89.out : Below w.heap.size w w92)); clear HO_9; clear HB; have HO_9 := n0_; have HB := n1_; clear n0_ n1_; clear hg hw hp_) | ((with_reducible refine gate_callee (f := 41) rfl ?_); refine goesL_ (some 117) rfl rfl Try.func41 (by kernel_rfl) rfl #[.slice (some ⟨go89, 0, none⟩) y241.length co89] rfl (by (try simp only [List.map_toArray, List.map_cons, List.map_nil]); first | done | (rw [show y241.length = x9_1.length from (Kd.R_reads' HO_9.out).1.symm] <;> rfl) | rfl | (simp only [List.length_drop, List.length_take]; rfl)) ?_; (with_reducible refine (impl_TableOk.calls k1 _ _ y241 t242 _ ?side1 ?side2 A90.out).mono ?_); (case side1 => repeat (first | exact (Kd.R_reads' HO_9.out).2.2 | (with_reducible refine Kd.C_alloc ?_ _) | (with_reducible refine Kd.C_drewN ?_ _) | (with_reducible refine Kd.C_drew ?_))); (case side2 => rw [show y241.length = x9_1.length from (Kd.R_reads' HO_9.out).1.symm]; exact (Kd.R_reads' HO_9.out).2.1); rintro e w' ⟨rfl, ⟨nd, rfl⟩⟩; refine ⟨_, rfl, ?_⟩))
                            go_ret
                            exact ⟨by first | rfl | (simp [errW_none, errW_some] <;> rfl) | (simp [*, errW_none, errW_some] <;> rfl), by repeat (first | (with_reducible first | exact HB.out | apply below_alloc | apply pw_below_drewN | apply below_drew1) | exact HB.out)⟩
                          · rw [if_neg c88] at H
                            exact absurd H (by simp)
                  · rw [if_neg c79] at H
                    exact absurd H (by simp)


/-- The one pure statement of laws_FnLimits. -/
def laws_FnLimits.Pure : Prop := ∀ (l0 : List Int), (l0.length ≤ maxLen ∧ ∀ y_6 ∈ l0, (Lit.int .u8 y_6).wf = true) → ∃ k, laws_FnLimits.f k l0 = some true
theorem laws_FnLimits.walk (P : laws_FnLimits.Pure) (A0 : Option Addr) (c0 : Nat) (l0 : List Int) (w : World) (hr0 : Kd.C (Kd.int .u8) w A0 l0.length l0) (hc0 : l0.length ≤ c0) (ql0 : (l0.length ≤ maxLen ∧ ∀ y_6 ∈ l0, (Lit.int .u8 y_6).wf = true)) :
    Calls Try.prog 8 #[.slice A0 l0.length c0] w fun e w' => e = .returned (.bool true) ∧ Below w.heap.size w w' := by
  obtain ⟨k, h⟩ := P l0 ql0
  refine (laws_FnLimits.calls k A0 c0 l0 true w hr0 hc0 ⟨rfl⟩ h).mono ?_
  rintro e w' ⟨rfl, hd⟩
  exact ⟨rfl, hd⟩

theorem segs_at (d : List Int) (b : Bool) (hd : decide ((d.length : Int) > 20000) = !b) : Ev (fun k => impl_SegsOk.f k [(⟨9, d⟩ : S61)]) b := by
  unfold impl_SegsOk.f
  refine evNeg (by simp) ?_
  refine Ev.step (fun k => by rw [impl_SegsOk.l0]) (evPos (by simp) (evPos (by omega) (evPos (by simp) ?_)))
  refine evBind (evConst (show _ = some true from rfl)) (evPos rfl ?_)
  have e : (rd_T61 [(⟨9, d⟩ : S61)] 0) = ⟨9, d⟩ := rfl
  rw [e]
  refine Ev.step (fun k => by rw [impl_SegsOk.j1]) ?_
  simp only []
  rw [hd]
  cases b with
  | false => exact evPos rfl (Ev.now _)
  | true =>
    refine evNeg (by simp) (evNeg (by omega) ?_)
    refine Ev.step (fun k => by rw [impl_SegsOk.j2]) (evNeg (by simp) ?_)
    refine evBind (evConst (show impl_isRestart.f 9 = some false from rfl)) (evNeg (by simp) ?_)
    exact Ev.of (g := fun k => impl_SegsOk.l0 k [(⟨9, d⟩ : S61)] [(⟨9, d⟩ : S61)] ((([(⟨9, d⟩ : S61)] : List S61).length : Nat) : Int) (wrap64 (0 + 1))) (fun k => (impl_SegsOk.mono_l k).1 _ _ _ _) (k := 1) (by rw [impl_SegsOk.l0, if_neg (by rw [show wrap64 (0 + 1) = 1 from by decide +kernel]; simp)])
theorem pure_Limits : laws_FnLimits.Pure := by
  intro l0 hq
  refine Ev.rounds (g := fun k => laws_FnLimits.f k l0) ?_
  unfold laws_FnLimits.f
  refine evBind (evConst (big_f l0)) (evIf (fun _ => Ev.now _) (fun hb => ?_))
  have hl : l0.length ≤ 1048576 := by
    simp only [decide_eq_true_eq] at hb
    omega
  have hc : CodeOk l0 := ⟨hl, fun y hy => wf8 (hq.2 y hy)⟩
  obtain ⟨m, hm, m0, m1⟩ := lpickP l0 hc 1 2 (by omega) (by omega) (by omega) (by omega)
  obtain ⟨c, hcc, _, _⟩ := lpickP l0 hc 0 8 (by omega) (by omega) (by omega) (by omega)
  refine evBind hm (evBind hcc ?_)
  clear hm hcc hb hq hl hc
  have hm01 : m = 0 ∨ m = 1 := by omega
  refine evIf (fun _ => ?_) (fun _ => evIf (fun _ => ?_) (fun _ => evIf (fun _ => ?_) (fun _ => evIf (fun _ => ?_) (fun _ => evIf (fun _ => ?_) (fun _ => evIf (fun _ => ?_) (fun _ => evIf (fun _ => ?_) (fun _ => ?_)))))))
  · rcases hm01 with rfl | rfl
    · exact evBind (Ev.of (g := fun k => impl_FieldsOk.f k [⟨wrap64 (16 + 0), 0⟩]) (fun k => impl_FieldsOk.mono _ k) (k := 10) (r := true) (by decide +kernel)) (evConst (by decide))
    · exact evBind (Ev.of (g := fun k => impl_FieldsOk.f k [⟨wrap64 (16 + 1), 0⟩]) (fun k => impl_FieldsOk.mono _ k) (k := 10) (r := false) (by decide +kernel)) (evConst (by decide))
  · rcases hm01 with rfl | rfl
    · exact Ev.of (g := fun k => laws_FnLimits.l0 k 0 (0 == (0 : Int)) []) (fun k => (laws_FnLimits.mono_l k).1 _ _ _) (k := 1500) (by decide +kernel)
    · exact Ev.of (g := fun k => laws_FnLimits.l0 k 1 ((1 : Int) == 0) []) (fun k => (laws_FnLimits.mono_l k).1 _ _ _) (k := 1500) (by decide +kernel)
  · have hw : wrap64 (20000 + m) = 20000 + m := w64 (by omega) (by omega)
    rw [hw]
    refine evPos (by omega) (evPos (by omega) ?_)
    rcases hm01 with rfl | rfl
    · exact evBind (segs_at _ true (by rw [List.length_replicate]; decide)) (evConst (by decide))
    · exact evBind (segs_at _ false (by rw [List.length_replicate]; decide)) (evConst (by decide))
  · rcases hm01 with rfl | rfl
    · exact evBind (Ev.of (g := fun k => impl_FrameOk.f k 8 (wrap64 (256 + 0)) 64 0 [⟨0, 1, 1, 0⟩]) (fun k => impl_FrameOk.mono _ _ _ _ _ k) (k := 50) (r := true) (by decide +kernel)) (evConst (by decide))
    · exact evBind (Ev.of (g := fun k => impl_FrameOk.f k 8 (wrap64 (256 + 1)) 64 0 [⟨0, 1, 1, 0⟩]) (fun k => impl_FrameOk.mono _ _ _ _ _ k) (k := 50) (r := false) (by decide +kernel)) (evConst (by decide))
  · rcases hm01 with rfl | rfl
    · exact evBind (Ev.of (g := fun k => impl_FrameOk.f k 12 128 (wrap64 (128 + 0)) 0 [⟨0, 4, 2, 0⟩, ⟨1, 1, 2, 0⟩]) (fun k => impl_FrameOk.mono _ _ _ _ _ k) (k := 50) (r := true) (by decide +kernel)) (evConst (by decide))
    · exact evBind (Ev.of (g := fun k => impl_FrameOk.f k 12 128 (wrap64 (128 + 1)) 0 [⟨0, 4, 2, 0⟩, ⟨1, 1, 2, 0⟩]) (fun k => impl_FrameOk.mono _ _ _ _ _ k) (k := 50) (r := false) (by decide +kernel)) (evConst (by decide))
  · refine evPos (by omega) ?_
    simp only [Option.bind_some]
    refine evPos (by simp) ?_
    rcases hm01 with rfl | rfl
    · exact evBind (Ev.of (g := fun k => impl_CoefsOk.f k 8 8 8 0 [⟨0, 1, 1, 0⟩] [[(List.replicate 64 (0 : Int)).set (9 : Int).toNat (wrap64 ((-16383) - 0))]]) (fun k => impl_CoefsOk.mono _ _ _ _ _ _ k) (k := 300) (r := true) (by decide +kernel)) (evConst (by decide))
    · exact evBind (Ev.of (g := fun k => impl_CoefsOk.f k 8 8 8 0 [⟨0, 1, 1, 0⟩] [[(List.replicate 64 (0 : Int)).set (9 : Int).toNat (wrap64 ((-16383) - 1))]]) (fun k => impl_CoefsOk.mono _ _ _ _ _ _ k) (k := 300) (r := false) (by decide +kernel)) (evConst (by decide))
  · have hw : wrap64 (256 + m) = 256 + m := w64 (by omega) (by omega)
    rw [hw]
    refine evPos (by omega) (evPos (by omega) ?_)
    simp only [Option.bind_some]
    refine evPos (by rw [List.length_replicate]; omega) ?_
    rcases hm01 with rfl | rfl
    · exact evBind (Ev.of (g := fun k => impl_LensOk.f k ((List.replicate (256 + 0 : Int).toNat (0 : Int)).set (0 : Int).toNat 1)) (fun k => impl_LensOk.mono _ k) (k := 900) (r := true) (by decide +kernel)) (evConst (by decide))
    · exact evBind (Ev.of (g := fun k => impl_LensOk.f k ((List.replicate (256 + 1 : Int).toNat (0 : Int)).set (0 : Int).toNat 1)) (fun k => impl_LensOk.mono _ k) (k := 900) (r := false) (by decide +kernel)) (evConst (by decide))
  · refine evPos (by omega) ?_
    rcases hm01 with rfl | rfl
    · exact Ev.of (g := fun k => laws_FnLimits.l1 k 0 (0 == (0 : Int)) (List.replicate 64 0) 0) (fun k => (laws_FnLimits.mono_l k).2 _ _ _ _) (k := 300) (by decide +kernel)
    · exact Ev.of (g := fun k => laws_FnLimits.l1 k 1 ((1 : Int) == 0) (List.replicate 64 0) 0) (fun k => (laws_FnLimits.mono_l k).2 _ _ _ _) (k := 300) (by decide +kernel)

end Go.Proofs.Ytimappilioaagaa.CL

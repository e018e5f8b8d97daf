/- Functions that a law of this seat reaches: written by a program of this session (wip/xprint.py), and by hand. -/
import Derived.Test.YthajjjpblkhmmaaYCLx0
import Derived.Test.YthajjjpblkhmmaaYCLx2
import Derived.Test.YthajjjpblkhmmaaYCLx3
namespace Go.Proofs.Ythajjjpblkhmmaa.CL
open Go.RowKit Go.Proofs.Ythajjjpblkhmmaa.B Go.Proofs.YthajjjpblkhmmaaW.PrintWords Go.Proofs.YthajjjpblkhmmaaW.PrintLast Go.Proofs.YthajjjpblkhmmaaW.PrintMore
attribute [local go_sem] max2_int min2_int max_two min_two max_three min_three max_four min_four   -- for this text's walks alone
set_option linter.unusedVariables false
set_option linter.unusedSimpArgs false

/-! ### spec_l12Left: function 86 -/
mutual
def spec_l12Left.j0 : Nat → List (S28) → List (List Int) → Bool → Int → Int → Int → Int → List (S42) → Option ((List (List Int)) × Bool)
  | 0, _, _, _, _, _, _, _, _ => none
  | k + 1, x1, x6, x23, x139000, x139001, x139002, x139003, x139004 => if x23 = true then (some (x6, false)) else (spec_l12Left.l0 k x1 x6 0 x139000 x139001 x139002 x139003 x139004)
def spec_l12Left.l0 : Nat → List (S28) → List (List Int) → Int → Int → Int → Int → Int → List (S42) → Option ((List (List Int)) × Bool)
  | 0, _, _, _, _, _, _, _, _ => none
  | k + 1, x1, x6, x7, x139000, x139001, x139002, x139003, x139004 => if x7 < (x139004.length : Int) then (spec_l12Left.l1 k x1 x6 x7 (([] : List Int)) 0 x139000 x139001 x139002 x139003 x139004) else (spec_l12Left.l2 k x1 x6 0 x139000 x139001 x139002 x139003 x139004)
def spec_l12Left.l1 : Nat → List (S28) → List (List Int) → Int → List Int → Int → Int → Int → Int → Int → List (S42) → Option ((List (List Int)) × Bool)
  | 0, _, _, _, _, _, _, _, _, _, _ => none
  | k + 1, x1, x6, x7, x8, x9, x139000, x139001, x139002, x139003, x139004 => if x9 < 64 then (if x8.length < 17592186044416 then (spec_l12Left.l1 k x1 x6 x7 (x8 ++ [(-1)]) (wrap64 (x9 + 1)) x139000 x139001 x139002 x139003 x139004) else (none)) else (if x6.length < 5864062014805 then (spec_l12Left.l0 k x1 (x6 ++ [x8]) (wrap64 (x7 + 1)) x139000 x139001 x139002 x139003 x139004) else (none))
def spec_l12Left.l2 : Nat → List (S28) → List (List Int) → Int → Int → Int → Int → Int → List (S42) → Option ((List (List Int)) × Bool)
  | 0, _, _, _, _, _, _, _, _ => none
  | k + 1, x1, x6, x10, x139000, x139001, x139002, x139003, x139004 => if x10 < (x1.length : Int) then (if 0 ≤ x10 then ((spec_ScanOk.f k x139000 x139001 x139002 x139003 x139004 ((rd_T28 x1 x10).f0) ((rd_T28 x1 x10).f1) ((rd_T28 x1 x10).f2) ((rd_T28 x1 x10).f3) ((rd_T28 x1 x10).f4)).bind fun t154 => (if t154 = true then (if ((rd_T28 x1 x10).f3) = 0 then (spec_l12Left.j4 k x1 x6 x10 (-1) x139000 x139001 x139002 x139003 x139004 ((rd_T28 x1 x10).f0) ((rd_T28 x1 x10).f1) ((rd_T28 x1 x10).f2) ((rd_T28 x1 x10).f3) ((rd_T28 x1 x10).f4)) else (spec_l12Left.j4 k x1 x6 x10 ((rd_T28 x1 x10).f3) x139000 x139001 x139002 x139003 x139004 ((rd_T28 x1 x10).f0) ((rd_T28 x1 x10).f1) ((rd_T28 x1 x10).f2) ((rd_T28 x1 x10).f3) ((rd_T28 x1 x10).f4))) else (some ((([] : List (List Int))), false)))) else (none)) else (some (x6, true))
def spec_l12Left.j4 : Nat → List (S28) → List (List Int) → Int → Int → Int → Int → Int → Int → List (S42) → List Int → Int → Int → Int → Int → Option ((List (List Int)) × Bool)
  | 0, _, _, _, _, _, _, _, _, _, _, _, _, _, _ => none
  | k + 1, x1, x6, x10, x12, x139000, x139001, x139002, x139003, x139004, x154000, x154001, x154002, x154003, x154004 => spec_l12Left.l3 k x1 x6 x10 x12 0 x139000 x139001 x139002 x139003 x139004 x154000 x154001 x154002 x154003 x154004
def spec_l12Left.l3 : Nat → List (S28) → List (List Int) → Int → Int → Int → Int → Int → Int → Int → List (S42) → List Int → Int → Int → Int → Int → Option ((List (List Int)) × Bool)
  | 0, _, _, _, _, _, _, _, _, _, _, _, _, _, _, _ => none
  | k + 1, x1, x6, x10, x12, x13, x139000, x139001, x139002, x139003, x139004, x154000, x154001, x154002, x154003, x154004 => if x13 < (x154000.length : Int) then (spec_l12Left.l4 k x1 x6 x10 x12 x13 x154001 x139000 x139001 x139002 x139003 x139004 x154000 x154001 x154002 x154003 x154004) else (spec_l12Left.l2 k x1 x6 (wrap64 (x10 + 1)) x139000 x139001 x139002 x139003 x139004)
def spec_l12Left.l4 : Nat → List (S28) → List (List Int) → Int → Int → Int → Int → Int → Int → Int → Int → List (S42) → List Int → Int → Int → Int → Int → Option ((List (List Int)) × Bool)
  | 0, _, _, _, _, _, _, _, _, _, _, _, _, _, _, _, _ => none
  | k + 1, x1, x6, x10, x12, x13, x14, x139000, x139001, x139002, x139003, x139004, x154000, x154001, x154002, x154003, x154004 => if x14 ≤ x154002 then (if 0 ≤ x13 then (if x13 < (x154000.length : Int) then (if 0 ≤ (rd x154000 x13) then (if (rd x154000 x13) < (x6.length : Int) then (if 0 ≤ x14 then (if x14 < ((rd_L2 x6 (rd x154000 x13)).length : Int) then (if (rd (rd_L2 x6 (rd x154000 x13)) x14) = x12 then (spec_l12Left.l4 k x1 (x6.set ((rd x154000 x13) : Int).toNat ((rd_L2 x6 (rd x154000 x13)).set (x14 : Int).toNat x154004)) x10 x12 x13 (wrap64 (x14 + 1)) x139000 x139001 x139002 x139003 x139004 x154000 x154001 x154002 x154003 x154004) else (some ((([] : List (List Int))), false))) else (none)) else (none)) else (none)) else (none)) else (none)) else (none)) else (spec_l12Left.l3 k x1 x6 x10 x12 (wrap64 (x13 + 1)) x139000 x139001 x139002 x139003 x139004 x154000 x154001 x154002 x154003 x154004)
end
def spec_l12Left.f (k : Nat) (a0_0 : Int) (a0_1 : Int) (a0_2 : Int) (a0_3 : Int) (l0_4 : List (S42)) (l1 : List (S28)) : Option ((List (List Int)) × Bool) := (some (([] : List (List Int)) : List (List Int))).bind fun y139 => ((spec_FrameOk.f k a0_0 a0_1 a0_2 a0_3 l0_4).bind fun t142 => (if t142 = true then (spec_l12Left.j0 k l1 y139 (decide ((l1.length : Int) > 40)) a0_0 a0_1 a0_2 a0_3 l0_4) else (spec_l12Left.j0 k l1 y139 true a0_0 a0_1 a0_2 a0_3 l0_4)))
theorem spec_l12Left.mono_l : ∀ k, (∀ y0 y1 y2 y3 y4 y5 y6 y7, LeO (spec_l12Left.j0 k y0 y1 y2 y3 y4 y5 y6 y7) (spec_l12Left.j0 (k + 1) y0 y1 y2 y3 y4 y5 y6 y7)) ∧ (∀ y0 y1 y2 y3 y4 y5 y6 y7, LeO (spec_l12Left.l0 k y0 y1 y2 y3 y4 y5 y6 y7) (spec_l12Left.l0 (k + 1) y0 y1 y2 y3 y4 y5 y6 y7)) ∧ (∀ y0 y1 y2 y3 y4 y5 y6 y7 y8 y9, LeO (spec_l12Left.l1 k y0 y1 y2 y3 y4 y5 y6 y7 y8 y9) (spec_l12Left.l1 (k + 1) y0 y1 y2 y3 y4 y5 y6 y7 y8 y9)) ∧ (∀ y0 y1 y2 y3 y4 y5 y6 y7, LeO (spec_l12Left.l2 k y0 y1 y2 y3 y4 y5 y6 y7) (spec_l12Left.l2 (k + 1) y0 y1 y2 y3 y4 y5 y6 y7)) ∧ (∀ y0 y1 y2 y3 y4 y5 y6 y7 y8 y9 y10 y11 y12 y13, LeO (spec_l12Left.j4 k y0 y1 y2 y3 y4 y5 y6 y7 y8 y9 y10 y11 y12 y13) (spec_l12Left.j4 (k + 1) y0 y1 y2 y3 y4 y5 y6 y7 y8 y9 y10 y11 y12 y13)) ∧ (∀ y0 y1 y2 y3 y4 y5 y6 y7 y8 y9 y10 y11 y12 y13 y14, LeO (spec_l12Left.l3 k y0 y1 y2 y3 y4 y5 y6 y7 y8 y9 y10 y11 y12 y13 y14) (spec_l12Left.l3 (k + 1) y0 y1 y2 y3 y4 y5 y6 y7 y8 y9 y10 y11 y12 y13 y14)) ∧ (∀ y0 y1 y2 y3 y4 y5 y6 y7 y8 y9 y10 y11 y12 y13 y14 y15, LeO (spec_l12Left.l4 k y0 y1 y2 y3 y4 y5 y6 y7 y8 y9 y10 y11 y12 y13 y14 y15) (spec_l12Left.l4 (k + 1) y0 y1 y2 y3 y4 y5 y6 y7 y8 y9 y10 y11 y12 y13 y14 y15))
 | 0 => ⟨fun _ _ _ _ _ _ _ _ r h => by simp [spec_l12Left.j0] at h, fun _ _ _ _ _ _ _ _ r h => by simp [spec_l12Left.l0] at h, fun _ _ _ _ _ _ _ _ _ _ r h => by simp [spec_l12Left.l1] at h, fun _ _ _ _ _ _ _ _ r h => by simp [spec_l12Left.l2] at h, fun _ _ _ _ _ _ _ _ _ _ _ _ _ _ r h => by simp [spec_l12Left.j4] at h, fun _ _ _ _ _ _ _ _ _ _ _ _ _ _ _ r h => by simp [spec_l12Left.l3] at h, fun _ _ _ _ _ _ _ _ _ _ _ _ _ _ _ _ r h => by simp [spec_l12Left.l4] at h⟩
 | k + 1 => by
  obtain ⟨ih0, ih1, ih2, ih3, ih4, ih5, ih6⟩ := spec_l12Left.mono_l k
  refine ⟨?_, ?_, ?_, ?_, ?_, ?_, ?_⟩
  ·intro y0 y1 y2 y3 y4 y5 y6 y7
   unfold spec_l12Left.j0
   repeat' first
   | (with_reducible exact ih0 _ _ _ _ _ _ _ _)
   | (with_reducible exact ih1 _ _ _ _ _ _ _ _)
   | (with_reducible exact ih2 _ _ _ _ _ _ _ _ _ _)
   | (with_reducible exact ih3 _ _ _ _ _ _ _ _)
   | (with_reducible exact ih4 _ _ _ _ _ _ _ _ _ _ _ _ _ _)
   | (with_reducible exact ih5 _ _ _ _ _ _ _ _ _ _ _ _ _ _ _)
   | (with_reducible exact ih6 _ _ _ _ _ _ _ _ _ _ _ _ _ _ _ _)
   | (with_reducible exact spec_FrameOk.mono _ _ _ _ _ _)
   | (with_reducible exact spec_ScanOk.mono _ _ _ _ _ _ _ _ _ _ _)
   | (with_reducible exact LeO.refl _)
   | (with_reducible exact LeO.none _)
   | (with_reducible refine LeO.ite ?_ ?_)
   | (with_reducible refine LeO.bind ?_ (fun _ => ?_))
   | exact ih0 _ _ _ _ _ _ _ _
   | exact ih1 _ _ _ _ _ _ _ _
   | exact ih2 _ _ _ _ _ _ _ _ _ _
   | exact ih3 _ _ _ _ _ _ _ _
   | exact ih4 _ _ _ _ _ _ _ _ _ _ _ _ _ _
   | exact ih5 _ _ _ _ _ _ _ _ _ _ _ _ _ _ _
   | exact ih6 _ _ _ _ _ _ _ _ _ _ _ _ _ _ _ _
   | exact spec_FrameOk.mono _ _ _ _ _ _
   | exact spec_ScanOk.mono _ _ _ _ _ _ _ _ _ _ _
   | exact LeO.none _
   | refine LeO.ite ?_ ?_
   | refine LeO.bind ?_ (fun _ => ?_)
  ·intro y0 y1 y2 y3 y4 y5 y6 y7
   unfold spec_l12Left.l0
   repeat' first
   | (with_reducible exact ih0 _ _ _ _ _ _ _ _)
   | (with_reducible exact ih1 _ _ _ _ _ _ _ _)
   | (with_reducible exact ih2 _ _ _ _ _ _ _ _ _ _)
   | (with_reducible exact ih3 _ _ _ _ _ _ _ _)
   | (with_reducible exact ih4 _ _ _ _ _ _ _ _ _ _ _ _ _ _)
   | (with_reducible exact ih5 _ _ _ _ _ _ _ _ _ _ _ _ _ _ _)
   | (with_reducible exact ih6 _ _ _ _ _ _ _ _ _ _ _ _ _ _ _ _)
   | (with_reducible exact spec_FrameOk.mono _ _ _ _ _ _)
   | (with_reducible exact spec_ScanOk.mono _ _ _ _ _ _ _ _ _ _ _)
   | (with_reducible exact LeO.refl _)
   | (with_reducible exact LeO.none _)
   | (with_reducible refine LeO.ite ?_ ?_)
   | (with_reducible refine LeO.bind ?_ (fun _ => ?_))
   | exact ih0 _ _ _ _ _ _ _ _
   | exact ih1 _ _ _ _ _ _ _ _
   | exact ih2 _ _ _ _ _ _ _ _ _ _
   | exact ih3 _ _ _ _ _ _ _ _
   | exact ih4 _ _ _ _ _ _ _ _ _ _ _ _ _ _
   | exact ih5 _ _ _ _ _ _ _ _ _ _ _ _ _ _ _
   | exact ih6 _ _ _ _ _ _ _ _ _ _ _ _ _ _ _ _
   | exact spec_FrameOk.mono _ _ _ _ _ _
   | exact spec_ScanOk.mono _ _ _ _ _ _ _ _ _ _ _
   | exact LeO.none _
   | refine LeO.ite ?_ ?_
   | refine LeO.bind ?_ (fun _ => ?_)
  ·intro y0 y1 y2 y3 y4 y5 y6 y7 y8 y9
   unfold spec_l12Left.l1
   repeat' first
   | (with_reducible exact ih0 _ _ _ _ _ _ _ _)
   | (with_reducible exact ih1 _ _ _ _ _ _ _ _)
   | (with_reducible exact ih2 _ _ _ _ _ _ _ _ _ _)
   | (with_reducible exact ih3 _ _ _ _ _ _ _ _)
   | (with_reducible exact ih4 _ _ _ _ _ _ _ _ _ _ _ _ _ _)
   | (with_reducible exact ih5 _ _ _ _ _ _ _ _ _ _ _ _ _ _ _)
   | (with_reducible exact ih6 _ _ _ _ _ _ _ _ _ _ _ _ _ _ _ _)
   | (with_reducible exact spec_FrameOk.mono _ _ _ _ _ _)
   | (with_reducible exact spec_ScanOk.mono _ _ _ _ _ _ _ _ _ _ _)
   | (with_reducible exact LeO.refl _)
   | (with_reducible exact LeO.none _)
   | (with_reducible refine LeO.ite ?_ ?_)
   | (with_reducible refine LeO.bind ?_ (fun _ => ?_))
   | exact ih0 _ _ _ _ _ _ _ _
   | exact ih1 _ _ _ _ _ _ _ _
   | exact ih2 _ _ _ _ _ _ _ _ _ _
   | exact ih3 _ _ _ _ _ _ _ _
   | exact ih4 _ _ _ _ _ _ _ _ _ _ _ _ _ _
   | exact ih5 _ _ _ _ _ _ _ _ _ _ _ _ _ _ _
   | exact ih6 _ _ _ _ _ _ _ _ _ _ _ _ _ _ _ _
   | exact spec_FrameOk.mono _ _ _ _ _ _
   | exact spec_ScanOk.mono _ _ _ _ _ _ _ _ _ _ _
   | exact LeO.none _
   | refine LeO.ite ?_ ?_
   | refine LeO.bind ?_ (fun _ => ?_)
  ·intro y0 y1 y2 y3 y4 y5 y6 y7
   unfold spec_l12Left.l2
   repeat' first
   | (with_reducible exact ih0 _ _ _ _ _ _ _ _)
   | (with_reducible exact ih1 _ _ _ _ _ _ _ _)
   | (with_reducible exact ih2 _ _ _ _ _ _ _ _ _ _)
   | (with_reducible exact ih3 _ _ _ _ _ _ _ _)
   | (with_reducible exact ih4 _ _ _ _ _ _ _ _ _ _ _ _ _ _)
   | (with_reducible exact ih5 _ _ _ _ _ _ _ _ _ _ _ _ _ _ _)
   | (with_reducible exact ih6 _ _ _ _ _ _ _ _ _ _ _ _ _ _ _ _)
   | (with_reducible exact spec_FrameOk.mono _ _ _ _ _ _)
   | (with_reducible exact spec_ScanOk.mono _ _ _ _ _ _ _ _ _ _ _)
   | (with_reducible exact LeO.refl _)
   | (with_reducible exact LeO.none _)
   | (with_reducible refine LeO.ite ?_ ?_)
   | (with_reducible refine LeO.bind ?_ (fun _ => ?_))
   | exact ih0 _ _ _ _ _ _ _ _
   | exact ih1 _ _ _ _ _ _ _ _
   | exact ih2 _ _ _ _ _ _ _ _ _ _
   | exact ih3 _ _ _ _ _ _ _ _
   | exact ih4 _ _ _ _ _ _ _ _ _ _ _ _ _ _
   | exact ih5 _ _ _ _ _ _ _ _ _ _ _ _ _ _ _
   | exact ih6 _ _ _ _ _ _ _ _ _ _ _ _ _ _ _ _
   | exact spec_FrameOk.mono _ _ _ _ _ _
   | exact spec_ScanOk.mono _ _ _ _ _ _ _ _ _ _ _
   | exact LeO.none _
   | refine LeO.ite ?_ ?_
   | refine LeO.bind ?_ (fun _ => ?_)
  ·intro y0 y1 y2 y3 y4 y5 y6 y7 y8 y9 y10 y11 y12 y13
   unfold spec_l12Left.j4
   repeat' first
   | (with_reducible exact ih0 _ _ _ _ _ _ _ _)
   | (with_reducible exact ih1 _ _ _ _ _ _ _ _)
   | (with_reducible exact ih2 _ _ _ _ _ _ _ _ _ _)
   | (with_reducible exact ih3 _ _ _ _ _ _ _ _)
   | (with_reducible exact ih4 _ _ _ _ _ _ _ _ _ _ _ _ _ _)
   | (with_reducible exact ih5 _ _ _ _ _ _ _ _ _ _ _ _ _ _ _)
   | (with_reducible exact ih6 _ _ _ _ _ _ _ _ _ _ _ _ _ _ _ _)
   | (with_reducible exact spec_FrameOk.mono _ _ _ _ _ _)
   | (with_reducible exact spec_ScanOk.mono _ _ _ _ _ _ _ _ _ _ _)
   | (with_reducible exact LeO.refl _)
   | (with_reducible exact LeO.none _)
   | (with_reducible refine LeO.ite ?_ ?_)
   | (with_reducible refine LeO.bind ?_ (fun _ => ?_))
   | exact ih0 _ _ _ _ _ _ _ _
   | exact ih1 _ _ _ _ _ _ _ _
   | exact ih2 _ _ _ _ _ _ _ _ _ _
   | exact ih3 _ _ _ _ _ _ _ _
   | exact ih4 _ _ _ _ _ _ _ _ _ _ _ _ _ _
   | exact ih5 _ _ _ _ _ _ _ _ _ _ _ _ _ _ _
   | exact ih6 _ _ _ _ _ _ _ _ _ _ _ _ _ _ _ _
   | exact spec_FrameOk.mono _ _ _ _ _ _
   | exact spec_ScanOk.mono _ _ _ _ _ _ _ _ _ _ _
   | exact LeO.none _
   | refine LeO.ite ?_ ?_
   | refine LeO.bind ?_ (fun _ => ?_)
  ·intro y0 y1 y2 y3 y4 y5 y6 y7 y8 y9 y10 y11 y12 y13 y14
   unfold spec_l12Left.l3
   repeat' first
   | (with_reducible exact ih0 _ _ _ _ _ _ _ _)
   | (with_reducible exact ih1 _ _ _ _ _ _ _ _)
   | (with_reducible exact ih2 _ _ _ _ _ _ _ _ _ _)
   | (with_reducible exact ih3 _ _ _ _ _ _ _ _)
   | (with_reducible exact ih4 _ _ _ _ _ _ _ _ _ _ _ _ _ _)
   | (with_reducible exact ih5 _ _ _ _ _ _ _ _ _ _ _ _ _ _ _)
   | (with_reducible exact ih6 _ _ _ _ _ _ _ _ _ _ _ _ _ _ _ _)
   | (with_reducible exact spec_FrameOk.mono _ _ _ _ _ _)
   | (with_reducible exact spec_ScanOk.mono _ _ _ _ _ _ _ _ _ _ _)
   | (with_reducible exact LeO.refl _)
   | (with_reducible exact LeO.none _)
   | (with_reducible refine LeO.ite ?_ ?_)
   | (with_reducible refine LeO.bind ?_ (fun _ => ?_))
   | exact ih0 _ _ _ _ _ _ _ _
   | exact ih1 _ _ _ _ _ _ _ _
   | exact ih2 _ _ _ _ _ _ _ _ _ _
   | exact ih3 _ _ _ _ _ _ _ _
   | exact ih4 _ _ _ _ _ _ _ _ _ _ _ _ _ _
   | exact ih5 _ _ _ _ _ _ _ _ _ _ _ _ _ _ _
   | exact ih6 _ _ _ _ _ _ _ _ _ _ _ _ _ _ _ _
   | exact spec_FrameOk.mono _ _ _ _ _ _
   | exact spec_ScanOk.mono _ _ _ _ _ _ _ _ _ _ _
   | exact LeO.none _
   | refine LeO.ite ?_ ?_
   | refine LeO.bind ?_ (fun _ => ?_)
  ·intro y0 y1 y2 y3 y4 y5 y6 y7 y8 y9 y10 y11 y12 y13 y14 y15
   unfold spec_l12Left.l4
   repeat' first
   | (with_reducible exact ih0 _ _ _ _ _ _ _ _)
   | (with_reducible exact ih1 _ _ _ _ _ _ _ _)
   | (with_reducible exact ih2 _ _ _ _ _ _ _ _ _ _)
   | (with_reducible exact ih3 _ _ _ _ _ _ _ _)
   | (with_reducible exact ih4 _ _ _ _ _ _ _ _ _ _ _ _ _ _)
   | (with_reducible exact ih5 _ _ _ _ _ _ _ _ _ _ _ _ _ _ _)
   | (with_reducible exact ih6 _ _ _ _ _ _ _ _ _ _ _ _ _ _ _ _)
   | (with_reducible exact spec_FrameOk.mono _ _ _ _ _ _)
   | (with_reducible exact spec_ScanOk.mono _ _ _ _ _ _ _ _ _ _ _)
   | (with_reducible exact LeO.refl _)
   | (with_reducible exact LeO.none _)
   | (with_reducible refine LeO.ite ?_ ?_)
   | (with_reducible refine LeO.bind ?_ (fun _ => ?_))
   | exact ih0 _ _ _ _ _ _ _ _
   | exact ih1 _ _ _ _ _ _ _ _
   | exact ih2 _ _ _ _ _ _ _ _ _ _
   | exact ih3 _ _ _ _ _ _ _ _
   | exact ih4 _ _ _ _ _ _ _ _ _ _ _ _ _ _
   | exact ih5 _ _ _ _ _ _ _ _ _ _ _ _ _ _ _
   | exact ih6 _ _ _ _ _ _ _ _ _ _ _ _ _ _ _ _
   | exact spec_FrameOk.mono _ _ _ _ _ _
   | exact spec_ScanOk.mono _ _ _ _ _ _ _ _ _ _ _
   | exact LeO.none _
   | refine LeO.ite ?_ ?_
   | refine LeO.bind ?_ (fun _ => ?_)
theorem spec_l12Left.mono : ∀ a0 a1 a2 a3 a4 a5 k, LeO (spec_l12Left.f k a0 a1 a2 a3 a4 a5) (spec_l12Left.f (k + 1) a0 a1 a2 a3 a4 a5) := by
 intro a0 a1 a2 a3 a4 a5 k
 obtain ⟨ih0, ih1, ih2, ih3, ih4, ih5, ih6⟩ := spec_l12Left.mono_l k
 unfold spec_l12Left.f
 repeat' first
   | (with_reducible exact ih0 _ _ _ _ _ _ _ _)
   | (with_reducible exact ih1 _ _ _ _ _ _ _ _)
   | (with_reducible exact ih2 _ _ _ _ _ _ _ _ _ _)
   | (with_reducible exact ih3 _ _ _ _ _ _ _ _)
   | (with_reducible exact ih4 _ _ _ _ _ _ _ _ _ _ _ _ _ _)
   | (with_reducible exact ih5 _ _ _ _ _ _ _ _ _ _ _ _ _ _ _)
   | (with_reducible exact ih6 _ _ _ _ _ _ _ _ _ _ _ _ _ _ _ _)
   | (with_reducible exact spec_FrameOk.mono _ _ _ _ _ _)
   | (with_reducible exact spec_ScanOk.mono _ _ _ _ _ _ _ _ _ _ _)
   | (with_reducible exact LeO.refl _)
   | (with_reducible exact LeO.none _)
   | (with_reducible refine LeO.ite ?_ ?_)
   | (with_reducible refine LeO.bind ?_ (fun _ => ?_))
   | exact ih0 _ _ _ _ _ _ _ _
   | exact ih1 _ _ _ _ _ _ _ _
   | exact ih2 _ _ _ _ _ _ _ _ _ _
   | exact ih3 _ _ _ _ _ _ _ _
   | exact ih4 _ _ _ _ _ _ _ _ _ _ _ _ _ _
   | exact ih5 _ _ _ _ _ _ _ _ _ _ _ _ _ _ _
   | exact ih6 _ _ _ _ _ _ _ _ _ _ _ _ _ _ _ _
   | exact spec_FrameOk.mono _ _ _ _ _ _
   | exact spec_ScanOk.mono _ _ _ _ _ _ _ _ _ _ _
   | exact LeO.none _
   | refine LeO.ite ?_ ?_
   | refine LeO.bind ?_ (fun _ => ?_)
def spec_l12Left.T30 : Bool × List (List Nat × List Nat) := (true, [([], []), ([], []), ([1], [1]), ([], []), ([2, 3], [2, 3]), ([4], [4]), ([0, 5], [0, 5]), ([6], [6]), ([], []), ([], []), ([9], [9]), ([7, 8, 0, 1, 2, 3, 4, 5, 6, 7, 8, 9, 10], [7, 8]), ([11, 10, 0, 1, 2, 3, 4, 5, 6, 7, 8, 9, 10], [10, 11])])
def spec_l12Left.B30 : List Nat := [0, 0, 2, 0, 14, 30, 63, 127, 0, 0, 512, 2047, 4095]
theorem spec_l12Left.tab30 : rtab .any (opsOf Try.f86 30) = spec_l12Left.T30 := by kernel_rfl
theorem spec_l12Left.bits30 : waitsOk spec_l12Left.T30.2 spec_l12Left.B30 = true := by kernel_rfl
set_option maxHeartbeats 8000000 in
set_option maxRecDepth 100000 in
theorem spec_l12Left.calls (k : Nat) (a0_0 : Int) (a0_1 : Int) (a0_2 : Int) (a0_3 : Int) (A0_4 : Option Addr) (c0_4 : Nat) (l0_4 : List (S42)) (A1 : Option Addr) (c1 : Nat) (l1 : List (S28)) (r1 : List (List Int)) (r2 : Bool) (w : World) (hr0_4 : Kd.C k42 w A0_4 l0_4.length l0_4) (hc0_4 : l0_4.length ≤ c0_4) (hr1 : Kd.C k28 w A1 l1.length l1) (hc1 : l1.length ≤ c1) (h : spec_l12Left.f k a0_0 a0_1 a0_2 a0_3 l0_4 l1 = some (r1, r2)) :
  Calls Try.prog 86 #[.agg #[.int .i64 a0_0, .int .i64 a0_1, .int .i64 a0_2, .int .i64 a0_3, .slice A0_4 l0_4.length c0_4], .slice A1 l1.length c1] w fun e w' => ∃ v0_ : Value, e = .returned (.tuple #[v0_, .bool r2]) ∧ Kd.S (Kd.slice 3 (Kd.int .i64)) 22 w' w.heap.size (fun _ => True) v0_ r1 ∧ Below w.heap.size w w' := by
 have hu45 := Try.underlying45
 have hu28 := Try.underlying28
 have HR0_4 := aM hr0_4
 have HC0_4 := aM hc0_4
 clear hr0_4 hc0_4
 have HR1 := aM hr1
 have HC1 := aM hc1
 clear hr1 hc1
 have HB := aM (Below.refl w.heap.size w)
 have H : ((some (([] : List (List Int)) : List (List Int))).bind fun y139 => ((spec_FrameOk.f k a0_0 a0_1 a0_2 a0_3 l0_4).bind fun t142 => (if t142 = true then (spec_l12Left.j0 k l1 y139 (decide ((l1.length : Int) > 40)) a0_0 a0_1 a0_2 a0_3 l0_4) else (spec_l12Left.j0 k l1 y139 true a0_0 a0_1 a0_2 a0_3 l0_4)))) = some (r1, r2) := h
 clear h
 obtain ⟨y139, hy139⟩ : ∃ y_ : List (List Int), y_ = (([] : List (List Int))) := ⟨_, rfl⟩
 replace H : ((spec_FrameOk.f k a0_0 a0_1 a0_2 a0_3 l0_4).bind fun t142 => (if t142 = true then (spec_l12Left.j0 k l1 y139 (decide ((l1.length : Int) > 40)) a0_0 a0_1 a0_2 a0_3 l0_4) else (spec_l12Left.j0 k l1 y139 true a0_0 a0_1 a0_2 a0_3 l0_4))) = some (r1, r2) := by first | (rw [hy139]; with_reducible exact H) | (have H2_ := (Option.bind_some _ _).symm.trans H; rw [hy139]; with_reducible exact H2_) | (have H2_ := (Option.bind_some _ _).symm.trans H; with_reducible exact H2_) | with_reducible exact H | (rw [hy139]; exact H) | exact H
 have Ny139 := aM hy139
 clear hy139
 have HC3 := aM H
 clear H
 go_enter Try.func86, Try.ntmps86
 go_upto_region 2 with (first | ((with_reducible refine gate_dst (N := 2) rfl ?_); (try (refine gate_guard (by rfl) ?_; dsimp only)); refine box_event ?hg (N := 2) ?hd (cs := #[.int .i64 a0_0, .int .i64 a0_1, .int .i64 a0_2, .int .i64 a0_3, .slice A0_4 l0_4.length c0_4]) (t := 45) ?hr ?_; (case hd => rfl); (case hg => rfl); (case hr => first | (go_simp; done) | (go_simp; rfl)); intro gb138 hg w4 hbox hb; have n0_ := aM (below_step (by repeat (first | (with_reducible first | exact HB.out | apply bA | apply bN | apply b1) | exact HB.out)) hb); have n1_ := aM (hbox); have n2_ := aM ((by rw [hg]; exact (below_size (by repeat (first | (with_reducible first | exact HB.out | apply bA | apply bN | apply b1) | exact HB.out))) : w.heap.size ≤ gb138)); have n3_ := aM ((by rw [hg]; exact (below_size (by repeat (first | (with_reducible first | exact HB.out | apply bA | apply bN | apply b1) | exact HB.out))) : w.heap.size ≤ gb138)); clear HB; have HB := n0_; have BK138 := n1_; have GW138 := n2_; have GE138 := n3_; clear n0_ n1_ n2_ n3_; clear hb hbox hg) | ((with_reducible refine gate_dst (N := 15) rfl ?_); (try (refine gate_guard (by rfl) ?_; dsimp only)); refine Kd.S_lit (Kd.slice 3 (Kd.int .i64)) _ 22 ?hg (N := 15) ?hd (xs := ([] : List (List Int))) (inner := []) (ok := fun _ => True) (okp := fun _ => True) ?hr ?hp (fun _ hk => hk) trivial (Below.refl _ _) (Nat.le_refl _) (by simp) ?_; (case hd => rfl); (case hg => rfl); (case hr => first | (go_simp; done) | (go_simp; rfl)); (case hp => exact (Reps.none _ _)); intro v140 w5 ho6 hb hg_ hnew_; clear hg_ hnew_; (first | rw [← Ny139.out] at ho6 | (simp only [Int.reduceToNat] at ho6; rw [← Ny139.out] at ho6)); have n0_ := aM (Kd.S_lower ho6 (below_size (by repeat (first | (with_reducible first | exact HB.out | apply bA | apply bN | apply b1 | refine bS ?_ GE138.out) | exact HB.out)))); have n1_ := aM (blk_below (g := gb138) (o := .cells #[.int .i64 a0_0, .int .i64 a0_1, .int .i64 a0_2, .int .i64 a0_3, .slice A0_4 l0_4.length c0_4] 45 (0, 0)) (by (with_reducible repeat (first | apply kN | apply kD | apply kA)); exact BK138.out) hb); have n2_ := aM (below_step (by repeat (first | (with_reducible first | exact HB.out | apply bA | apply bN | apply b1 | refine bS ?_ GE138.out) | exact HB.out)) hb); clear BK138; clear HB; have HO141 := n0_; have BK138 := n1_; have HB := n2_; clear n0_ n1_ n2_; clear hb ho6))
 (try simp only [Act.put, List.setIfInBounds_toArray, List.set_cons_zero, List.set_cons_succ])
 go_cut [23] (fun v23 wc => ∃ (kq : Nat) (x23_2 : Bool), v23 = .bool x23_2 ∧ Aside0 (spec_l12Left.j0 kq l1 y139 x23_2 a0_0 a0_1 a0_2 a0_3 l0_4 = some (r1, r2)) ∧ Aside0 (kq ≤ k) ∧ Aside0 (Kd.S (Kd.slice 3 (Kd.int .i64)) 22 wc w.heap.size (fun _ => True) v140 y139) ∧ Aside0 (wc.heap[gb138]? = some (.cells #[.int .i64 a0_0, .int .i64 a0_1, .int .i64 a0_2, .int .i64 a0_3, (.slice A0_4 l0_4.length c0_4)] 45 (0, 0))) ∧ Aside0 (Below w.heap.size w wc))
 case first =>
  have H := HC3.out
  clear HC3
  replace H := oB H
  obtain ⟨t142, A70, H⟩ := H
  replace H : (if t142 = true then (spec_l12Left.j0 k l1 y139 (decide ((l1.length : Int) > 40)) a0_0 a0_1 a0_2 a0_3 l0_4) else (spec_l12Left.j0 k l1 y139 true a0_0 a0_1 a0_2 a0_3 l0_4)) = some (r1, r2) := H
  have A7 := aM A70
  clear A70
  by_cases c8 : t142 = true
  ·subst c8
   have H1 : (spec_l12Left.j0 k l1 y139 (decide ((l1.length : Int) > 40)) a0_0 a0_1 a0_2 a0_3 l0_4) = some (r1, r2) := by rw [if_pos rfl] at H; exact H
   clear H
   have H := H1
   clear H1
   have H' := aM H
   clear H
   have hcz9_0 : w5.cell? ⟨gb138, 0, none⟩ = some (.int .i64 a0_0) := (kC BK138.out 0).trans rfl
   have hcz9_1 : w5.cell? ⟨gb138, 1, none⟩ = some (.int .i64 a0_1) := (kC BK138.out 1).trans rfl
   have hcz9_2 : w5.cell? ⟨gb138, 2, none⟩ = some (.int .i64 a0_2) := (kC BK138.out 2).trans rfl
   have hcz9_3 : w5.cell? ⟨gb138, 3, none⟩ = some (.int .i64 a0_3) := (kC BK138.out 3).trans rfl
   have hcz9_4 : w5.cell? ⟨gb138, 4, none⟩ = some (.slice A0_4 l0_4.length c0_4) := (kC BK138.out 4).trans rfl
   go_wp2_with (first | ((with_reducible refine gate_callee (f := 85) rfl ?_); refine goesL_ (some 17) rfl rfl Try.func85 (by kernel_rfl) rfl #[.agg #[.int .i64 a0_0, .int .i64 a0_1, .int .i64 a0_2, .int .i64 a0_3, .slice A0_4 l0_4.length c0_4]] rfl (by (try simp only [List.map_toArray, List.map_cons, List.map_nil]); first | done | rfl | (simp only [List.length_drop, List.length_take]; rfl)) ?_; (with_reducible refine (spec_FrameOk.calls k a0_0 a0_1 a0_2 a0_3 _ _ l0_4 true _ ?side1 ?side2 A7.out).mono ?_); (case side1 => repeat (first | exact (Kd.C_below HR0_4.out HB.out) | (with_reducible first | refine Kd.C_alloc ?_ _ | refine Kd.C_drewN ?_ _ | refine Kd.C_drew ?_))); (case side2 => exact HC0_4.out); rintro e w10 ⟨rfl, hb⟩; refine ⟨_, rfl, ?_⟩; have n0_ := aM (Kd.S_below (by (with_reducible repeat (first | apply Kd.S_alloc | apply Kd.S_drewN | apply Kd.S_drew)); exact HO141.out) hb); have n1_ := aM (blk_below (g := gb138) (o := .cells #[.int .i64 a0_0, .int .i64 a0_1, .int .i64 a0_2, .int .i64 a0_3, .slice A0_4 l0_4.length c0_4] 45 (0, 0)) (by (with_reducible repeat (first | apply kN | apply kD | apply kA)); exact BK138.out) hb); have n2_ := aM (below_step (by repeat (first | (with_reducible first | exact HB.out | apply bA | apply bN | apply b1 | refine bS ?_ GE138.out) | exact HB.out)) hb); clear HO141; clear BK138; clear HB; have HO141 := n0_; have BK138 := n1_; have HB := n2_; clear n0_ n1_ n2_; (try clear hb); (try clear hb2); (try clear hk); (try clear hi)))
   go_meet
   case rel => exact ⟨_, (decide ((l1.length : Int) > 40)), (by first | rfl | (simp; done) | (simp [*]; done)), H', ⟨by first | omega | exact Nat.le_refl _⟩, ⟨by (with_reducible repeat (first | apply Kd.S_alloc | apply Kd.S_drewN | apply Kd.S_drew)); exact HO141.out⟩, ⟨by (with_reducible repeat (first | apply kN | apply kD | apply kA)); exact BK138.out⟩, ⟨by repeat (first | (with_reducible first | exact HB.out | apply bA | apply bN | apply b1 | refine bS ?_ GE138.out) | exact HB.out)⟩⟩
  ·replace c8 := Bool.eq_false_iff.mpr c8
   subst c8
   have H1 : (spec_l12Left.j0 k l1 y139 true a0_0 a0_1 a0_2 a0_3 l0_4) = some (r1, r2) := by rw [if_neg (show ¬ (false = true) by decide)] at H; exact H
   clear H
   have H := H1
   clear H1
   have H' := aM H
   clear H
   have hcz11_0 : w5.cell? ⟨gb138, 0, none⟩ = some (.int .i64 a0_0) := (kC BK138.out 0).trans rfl
   have hcz11_1 : w5.cell? ⟨gb138, 1, none⟩ = some (.int .i64 a0_1) := (kC BK138.out 1).trans rfl
   have hcz11_2 : w5.cell? ⟨gb138, 2, none⟩ = some (.int .i64 a0_2) := (kC BK138.out 2).trans rfl
   have hcz11_3 : w5.cell? ⟨gb138, 3, none⟩ = some (.int .i64 a0_3) := (kC BK138.out 3).trans rfl
   have hcz11_4 : w5.cell? ⟨gb138, 4, none⟩ = some (.slice A0_4 l0_4.length c0_4) := (kC BK138.out 4).trans rfl
   go_wp2_with (first | ((with_reducible refine gate_callee (f := 85) rfl ?_); refine goesL_ (some 17) rfl rfl Try.func85 (by kernel_rfl) rfl #[.agg #[.int .i64 a0_0, .int .i64 a0_1, .int .i64 a0_2, .int .i64 a0_3, .slice A0_4 l0_4.length c0_4]] rfl (by (try simp only [List.map_toArray, List.map_cons, List.map_nil]); first | done | rfl | (simp only [List.length_drop, List.length_take]; rfl)) ?_; (with_reducible refine (spec_FrameOk.calls k a0_0 a0_1 a0_2 a0_3 _ _ l0_4 false _ ?side1 ?side2 A7.out).mono ?_); (case side1 => repeat (first | exact (Kd.C_below HR0_4.out HB.out) | (with_reducible first | refine Kd.C_alloc ?_ _ | refine Kd.C_drewN ?_ _ | refine Kd.C_drew ?_))); (case side2 => exact HC0_4.out); rintro e w12 ⟨rfl, hb⟩; refine ⟨_, rfl, ?_⟩; have n0_ := aM (Kd.S_below (by (with_reducible repeat (first | apply Kd.S_alloc | apply Kd.S_drewN | apply Kd.S_drew)); exact HO141.out) hb); have n1_ := aM (blk_below (g := gb138) (o := .cells #[.int .i64 a0_0, .int .i64 a0_1, .int .i64 a0_2, .int .i64 a0_3, .slice A0_4 l0_4.length c0_4] 45 (0, 0)) (by (with_reducible repeat (first | apply kN | apply kD | apply kA)); exact BK138.out) hb); have n2_ := aM (below_step (by repeat (first | (with_reducible first | exact HB.out | apply bA | apply bN | apply b1 | refine bS ?_ GE138.out) | exact HB.out)) hb); clear HO141; clear BK138; clear HB; have HO141 := n0_; have BK138 := n1_; have HB := n2_; clear n0_ n1_ n2_; (try clear hb); (try clear hb2); (try clear hk); (try clear hi)))
   go_meet
   case rel => exact ⟨_, (true), (by first | rfl | (simp; done) | (simp [*]; done)), H', ⟨by first | omega | exact Nat.le_refl _⟩, ⟨by (with_reducible repeat (first | apply Kd.S_alloc | apply Kd.S_drewN | apply Kd.S_drew)); exact HO141.out⟩, ⟨by (with_reducible repeat (first | apply kN | apply kD | apply kA)); exact BK138.out⟩, ⟨by repeat (first | (with_reducible first | exact HB.out | apply bA | apply bN | apply b1 | refine bS ?_ GE138.out) | exact HB.out)⟩⟩
 case rest =>
  clear HC3
  (try clear c1); (try clear p2); (try clear c8); (try clear hcz11_0); (try clear hcz11_1); (try clear hcz11_2); (try clear hcz11_3); (try clear hcz11_4); (try clear hcz9_0); (try clear hcz9_1); (try clear hcz9_2); (try clear hcz9_3); (try clear hcz9_4); (try clear hfz11_0); (try clear hfz11_1); (try clear hfz11_2); (try clear hfz11_3); (try clear hfz11_4); (try clear hfz9_0); (try clear hfz9_1); (try clear hfz9_2); (try clear hfz9_3); (try clear hfz9_4)
  obtain ⟨kq, x23_2, rfl, HA, HJ2, HO_6, BK138, HB⟩ := hcut
  cases kq with
  | zero => exact absurd HA.out (by simp [spec_l12Left.j0])
  | succ kj2 =>
   have H := HA.out
   clear HA
   simp only [spec_l12Left.j0] at H
   by_cases c13 : x23_2 = true
   ·subst c13
    have H1 : (some (y139, false)) = some (r1, r2) := by rw [if_pos rfl] at H; exact H
    clear H
    have H := H1
    clear H1
    simp only [Option.some.injEq, Prod.mk.injEq] at H
    obtain ⟨rfl, rfl⟩ := H
    go_wp2
    go_ret2
    exact ⟨_, by first | rfl | (simp [*, errW_none, errW_some] <;> rfl), by (with_reducible repeat (first | apply Kd.S_alloc | apply Kd.S_drewN | apply Kd.S_drew)); exact HO_6.out, by repeat (first | (with_reducible first | exact HB.out | apply bA | apply bN | apply b1 | refine bS ?_ GE138.out) | exact HB.out)⟩
   ·replace c13 := Bool.eq_false_iff.mpr c13
    subst c13
    have H1 : (spec_l12Left.l0 kj2 l1 y139 0 a0_0 a0_1 a0_2 a0_3 l0_4) = some (r1, r2) := by rw [if_neg (show ¬ (false = true) by decide)] at H; exact H
    clear H
    have H := H1
    clear H1
    have H' := aM H
    clear H
    go_wp2
    go_loopg [6, 7] kj2 (fun kq v6 v7 w' => ∃ (x6_2 : List (List Int)) (x7_2 : Int), v7 = .int .i64 x7_2 ∧ Aside0 (spec_l12Left.l0 kq l1 x6_2 x7_2 a0_0 a0_1 a0_2 a0_3 l0_4 = some (r1, r2)) ∧ Aside0 (kq ≤ kj2) ∧ Aside0 (Kd.S (Kd.slice 3 (Kd.int .i64)) 22 w' w.heap.size (fun _ => True) v6 x6_2) ∧ Aside0 (w'.heap[gb138]? = some (.cells #[.int .i64 a0_0, .int .i64 a0_1, .int .i64 a0_2, .int .i64 a0_3, (.slice A0_4 l0_4.length c0_4)] 45 (0, 0))) ∧ Aside0 (Below w.heap.size w w'))
    case atStart => exact ⟨(y139), (0), (by first | rfl | (simp; done) | (simp [*]; done)), H', ⟨Nat.le_refl _⟩, ⟨by (with_reducible repeat (first | apply Kd.S_alloc | apply Kd.S_drewN | apply Kd.S_drew)); exact HO_6.out⟩, ⟨by (with_reducible repeat (first | apply kN | apply kD | apply kA)); exact BK138.out⟩, ⟨by repeat (first | (with_reducible first | exact HB.out | apply bA | apply bN | apply b1 | refine bS ?_ GE138.out) | exact HB.out)⟩⟩
    case round =>
     clear H'
     (try clear c1); (try clear p2); (try clear c8); (try clear c13); (try clear hcz11_0); (try clear hcz11_1); (try clear hcz11_2); (try clear hcz11_3); (try clear hcz11_4); (try clear hcz9_0); (try clear hcz9_1); (try clear hcz9_2); (try clear hcz9_3); (try clear hcz9_4); (try clear hfz11_0); (try clear hfz11_1); (try clear hfz11_2); (try clear hfz11_3); (try clear hfz11_4); (try clear hfz9_0); (try clear hfz9_1); (try clear hfz9_2); (try clear hfz9_3); (try clear hfz9_4); (try clear p2)
     obtain ⟨x6_2, x7_2, rfl, HA, HK2, HO_6, BK138, HB⟩ := hrel
     cases gk with
     | zero => exact absurd HA.out (by simp [spec_l12Left.l0])
     | succ k2 =>
      have H := HA.out
      clear HA
      simp only [spec_l12Left.l0] at H
      by_cases c14 : x7_2 < (l0_4.length : Int)
      ·rw [if_pos c14] at H
       have c14b0 : decide (x7_2 < (l0_4.length : Int)) = true := decide_eq_true c14
       clear c14
       obtain ⟨y143, hy143⟩ : ∃ y_ : List Int, y_ = (([] : List Int)) := ⟨_, rfl⟩
       replace H : (spec_l12Left.l1 k2 l1 x6_2 x7_2 y143 0 a0_0 a0_1 a0_2 a0_3 l0_4) = some (r1, r2) := by first | (rw [hy143]; with_reducible exact H) | (have H2_ := (Option.bind_some _ _).symm.trans H; rw [hy143]; with_reducible exact H2_) | (have H2_ := (Option.bind_some _ _).symm.trans H; with_reducible exact H2_) | with_reducible exact H | (rw [hy143]; exact H) | exact H
       have Ny143 := aM hy143
       clear hy143
       have H' := aM H
       clear H
       have hcz15_0 : wr.cell? ⟨gb138, 0, none⟩ = some (.int .i64 a0_0) := (kC BK138.out 0).trans rfl
       have hcz15_1 : wr.cell? ⟨gb138, 1, none⟩ = some (.int .i64 a0_1) := (kC BK138.out 1).trans rfl
       have hcz15_2 : wr.cell? ⟨gb138, 2, none⟩ = some (.int .i64 a0_2) := (kC BK138.out 2).trans rfl
       have hcz15_3 : wr.cell? ⟨gb138, 3, none⟩ = some (.int .i64 a0_3) := (kC BK138.out 3).trans rfl
       have hcz15_4 : wr.cell? ⟨gb138, 4, none⟩ = some (.slice A0_4 l0_4.length c0_4) := (kC BK138.out 4).trans rfl
       go_wp2_with (first | ((with_reducible refine gate_dst (N := 32) rfl ?_); (try (refine gate_guard (by rfl) ?_; dsimp only)); refine Kd.R_lit (Kd.int .i64) _ 3 ?hg (N := 32) ?hd (xs := ([] : List Int)) (inner := []) (ok := fun _ => True) (okp := fun _ => True) ?hr ?hp (fun _ hk => hk) trivial (Below.refl _ _) (Nat.le_refl _) (by simp) ?_; (case hd => rfl); (case hg => rfl); (case hr => first | (go_simp; done) | (go_simp; rfl)); (case hp => exact (Reps.none _ _)); intro v144 w16 ho17 hb hg_ hnew_; clear hg_ hnew_; (first | rw [← Ny143.out] at ho17 | (simp only [Int.reduceToNat] at ho17; rw [← Ny143.out] at ho17)); have n0_ := aM (Kd.S_elder' (by (with_reducible repeat (first | apply Kd.S_alloc | apply Kd.S_drewN | apply Kd.S_drew)); exact HO_6.out) (Kd.R_base ho17) hb); have n1_ := aM (Kd.R_lower ho17 (below_size (by repeat (first | (with_reducible first | exact HB.out | apply bA | apply bN | apply b1 | refine bS ?_ GE138.out) | exact HB.out)))); have n2_ := aM (blk_below (g := gb138) (o := .cells #[.int .i64 a0_0, .int .i64 a0_1, .int .i64 a0_2, .int .i64 a0_3, .slice A0_4 l0_4.length c0_4] 45 (0, 0)) (by (with_reducible repeat (first | apply kN | apply kD | apply kA)); exact BK138.out) hb); have n3_ := aM (below_step (by repeat (first | (with_reducible first | exact HB.out | apply bA | apply bN | apply b1 | refine bS ?_ GE138.out) | exact HB.out)) hb); clear HO_6; clear BK138; clear HB; have HO_6 := n0_; have HO145 := n1_; have BK138 := n2_; have HB := n3_; clear n0_ n1_ n2_ n3_; clear hb ho17))
       go_loopg [8, 9] k2 (fun kq v8 v9 w' => ∃ (x8_3 : List Int) (x9_3 : Int), v9 = .int .i64 x9_3 ∧ Aside0 (spec_l12Left.l1 kq l1 x6_2 x7_2 x8_3 x9_3 a0_0 a0_1 a0_2 a0_3 l0_4 = some (r1, r2)) ∧ Aside0 (kq ≤ k2) ∧ Aside0 (Kd.S (Kd.slice 3 (Kd.int .i64)) 22 w' w.heap.size (fun k_ => some k_ ≠ (v8 : Value).ownBlock) u6 x6_2) ∧ Aside0 (Kd.R (Kd.int .i64) 3 w' w.heap.size (fun _ => True) v8 x8_3) ∧ Aside0 (w'.heap[gb138]? = some (.cells #[.int .i64 a0_0, .int .i64 a0_1, .int .i64 a0_2, .int .i64 a0_3, (.slice A0_4 l0_4.length c0_4)] 45 (0, 0))) ∧ Aside0 (Below w.heap.size w w'))
       case atStart => exact ⟨(y143), (0), (by first | rfl | (simp; done) | (simp [*]; done)), H', ⟨Nat.le_refl _⟩, ⟨by (with_reducible repeat (first | apply Kd.S_alloc | apply Kd.S_drewN | apply Kd.S_drew)); exact Kd.S_mono HO_6.out (fun _ hk => hk.2)⟩, ⟨by (with_reducible repeat (first | apply Kd.R_alloc | apply Kd.R_drewN | apply Kd.R_drew)); exact HO145.out⟩, ⟨by (with_reducible repeat (first | apply kN | apply kD | apply kA)); exact BK138.out⟩, ⟨by repeat (first | (with_reducible first | exact HB.out | apply bA | apply bN | apply b1 | refine bS ?_ GE138.out) | exact HB.out)⟩⟩
       case round =>
        clear H'
        (try clear c1); (try clear p2); (try clear c8); (try clear c13); (try clear c14); (try clear c14b0); (try clear hcz11_0); (try clear hcz11_1); (try clear hcz11_2); (try clear hcz11_3); (try clear hcz11_4); (try clear hcz15_0); (try clear hcz15_1); (try clear hcz15_2); (try clear hcz15_3); (try clear hcz15_4); (try clear hcz9_0); (try clear hcz9_1); (try clear hcz9_2); (try clear hcz9_3); (try clear hcz9_4); (try clear hfz11_0); (try clear hfz11_1); (try clear hfz11_2); (try clear hfz11_3); (try clear hfz11_4); (try clear hfz15_0); (try clear hfz15_1); (try clear hfz15_2); (try clear hfz15_3); (try clear hfz15_4); (try clear hfz9_0); (try clear hfz9_1); (try clear hfz9_2); (try clear hfz9_3); (try clear hfz9_4); (try clear p2)
        obtain ⟨x8_3, x9_3, rfl, HA, HK3, HO_6, HO_8, BK138, HB⟩ := hrel
        cases gk with
        | zero => exact absurd HA.out (by simp [spec_l12Left.l1])
        | succ k3 =>
         have H := HA.out
         clear HA
         simp only [spec_l12Left.l1] at H
         by_cases c18 : x9_3 < 64
         ·rw [if_pos c18] at H
          have c18b0 : decide (x9_3 < 64) = true := decide_eq_true c18
          clear c18
          by_cases c19 : x8_3.length < 17592186044416
          ·rw [if_pos c19] at H
           have LMc19 := aM c19
           clear c19
           obtain ⟨y146, hy146⟩ : ∃ y_ : List Int, y_ = (x8_3 ++ [(-1)]) := ⟨_, rfl⟩
           replace H : (spec_l12Left.l1 k3 l1 x6_2 x7_2 y146 (wrap64 (x9_3 + 1)) a0_0 a0_1 a0_2 a0_3 l0_4) = some (r1, r2) := by first | (rw [hy146]; with_reducible exact H) | (have H2_ := (Option.bind_some _ _).symm.trans H; rw [hy146]; with_reducible exact H2_) | (have H2_ := (Option.bind_some _ _).symm.trans H; with_reducible exact H2_) | with_reducible exact H | (rw [hy146]; exact H) | exact H
           have Ny146 := aM hy146
           clear hy146
           have H' := aM H
           clear H
           go_wp2_with (first | ((with_reducible refine gate_builtin (b := .append) (xs := #[.tmp 37, .tmp 38]) rfl ?_); (try (refine gate_guard (by rfl) ?_; dsimp only)); at_builtin; refine Kd.R_append (Kd.int .i64) (w0 := w) w.heap.size rfl (.tmp 37) (.tmp 38) 22 3 (.int .i64 0) 8 rfl Try.underlying22 info3 rfl (by decide) (by omega) u8 x8_3 (-1) [.int .i64 (-1)] (fun _ => True) (fun _ => False) rfl rfl ?aP (fun _ hk => hk.elim) ?aF ?aO ?aB ?aS ?aL ?_; (case aP => exact rfl); (case aB => exact (by repeat (first | (with_reducible first | exact HB.out | apply bA | apply bN | apply b1 | refine bS ?_ GE138.out) | exact HB.out))); (case aF => exact (fun _ _ => trivial)); (case aO => exact (by (with_reducible repeat (first | apply Kd.R_alloc | apply Kd.R_drewN | apply Kd.R_drew)); exact HO_8.out)); (case aS => exact (below_size (by repeat (first | (with_reducible first | exact HB.out | apply bA | apply bN | apply b1 | refine bS ?_ GE138.out) | exact HB.out)))); (case aL => have := LMc19.out; omega); intro v147 w20 ho hb hg hat; rw [← Ny146.out] at ho; have n0_ := aM (Kd.S_after (ok := (fun _ => True)) (by (with_reducible repeat (first | apply Kd.S_alloc | apply Kd.S_drewN | apply Kd.S_drew)); exact Kd.S_mono HO_6.out (fun _ hk => ⟨trivial, hk⟩)) hg hat); have n1_ := aM (blk_grown (g := gb138) (o := .cells #[.int .i64 a0_0, .int .i64 a0_1, .int .i64 a0_2, .int .i64 a0_3, .slice A0_4 l0_4.length c0_4] 45 (0, 0)) (by (with_reducible repeat (first | apply kN | apply kD | apply kA)); exact BK138.out) hg (Kd.R_ne HO_8.out BK138.out (by decide))); have n2_ := aM (hb); have n3_ := aM (ho); clear HO_6; clear BK138; clear HB; clear HO_8; have HO_6 := n0_; have BK138 := n1_; have HB := n2_; have HO148 := n3_; clear n0_ n1_ n2_ n3_; clear ho hb hg hat))
           go_roundg k3
           case measure => have := HJ2.out; have := HK2.out; have := HK3.out; omega
           case rel => exact ⟨(y146), (wrap64 (x9_3 + 1)), (by first | rfl | (simp; done) | (simp [*]; done)), H', ⟨by have := HJ2.out; have := HK2.out; have := HK3.out; omega⟩, ⟨by (with_reducible repeat (first | apply Kd.S_alloc | apply Kd.S_drewN | apply Kd.S_drew)); exact Kd.S_mono HO_6.out (fun _ hk => hk.2)⟩, ⟨by (with_reducible repeat (first | apply Kd.R_alloc | apply Kd.R_drewN | apply Kd.R_drew)); exact HO148.out⟩, ⟨by (with_reducible repeat (first | apply kN | apply kD | apply kA)); exact BK138.out⟩, ⟨by repeat (first | (with_reducible first | exact HB.out | apply bA | apply bN | apply b1 | refine bS ?_ GE138.out) | exact HB.out)⟩⟩
          ·rw [if_neg c19] at H
           exact absurd H (by simp)
         ·rw [if_neg c18] at H
          have c18b0 : decide (x9_3 < 64) = false := decide_eq_false c18
          clear c18
          by_cases c21 : x6_2.length < 5864062014805
          ·rw [if_pos c21] at H
           have LMc21 := aM c21
           clear c21
           obtain ⟨y149, hy149⟩ : ∃ y_ : List (List Int), y_ = (x6_2 ++ [x8_3]) := ⟨_, rfl⟩
           replace H : (spec_l12Left.l0 k3 l1 y149 (wrap64 (x7_2 + 1)) a0_0 a0_1 a0_2 a0_3 l0_4) = some (r1, r2) := by first | (rw [hy149]; with_reducible exact H) | (have H2_ := (Option.bind_some _ _).symm.trans H; rw [hy149]; with_reducible exact H2_) | (have H2_ := (Option.bind_some _ _).symm.trans H; with_reducible exact H2_) | with_reducible exact H | (rw [hy149]; exact H) | exact H
           have Ny149 := aM hy149
           clear hy149
           have H' := aM H
           clear H
           obtain ⟨Ao23, co23, eo23⟩ := Kd.R_slice HO_8.out
           subst eo23
           go_wp2_with (first | ((with_reducible refine gate_builtin (b := .append) (xs := #[.tmp 40, .tmp 42]) rfl ?_); (try (refine gate_guard (by rfl) ?_; dsimp only)); at_builtin; refine Kd.S_append (Kd.slice 3 (Kd.int .i64)) (w0 := w) w.heap.size rfl (.tmp 40) (.tmp 42) 49 22 (.slice none 0 0) 24 rfl Try.underlying49 info22 rfl (by decide) (by omega) u6 x6_2 x8_3 [.slice Ao23 x8_3.length co23] (fun _ => True) (fun k_ => some k_ = (.slice Ao23 x8_3.length co23 : Value).ownBlock) rfl rfl ?aP (fun k_ hk_ => ((Kd.R_mono (ok' := fun k_ => ((fun _ => True)) k_ ∧ some k_ ≠ (u6 : Value).ownBlock) (Kd.R_apart' (HO_8.out) (Kd.S_typed HO_6.out) (by decide)) (fun k_ hk => ⟨trivial, hk.2⟩))).1 k_ hk_.symm) ?aF ?aO ?aB ?aS ?aL ?_; (case aP => exact Kd.M_row (Kd.R_mono (Kd.R_tight rfl (Kd.R_mono (ok' := fun k_ => ((fun _ => True)) k_ ∧ some k_ ≠ (u6 : Value).ownBlock) (Kd.R_apart' (HO_8.out) (Kd.S_typed HO_6.out) (by decide)) (fun k_ hk => ⟨trivial, hk.2⟩))) (fun _ h_ => h_))); (case aB => exact (by repeat (first | (with_reducible first | exact HB.out | apply bA | apply bN | apply b1 | refine bS ?_ GE138.out) | exact HB.out))); (case aF => exact (fun _ _ => trivial)); (case aO => exact (by (with_reducible repeat (first | apply Kd.S_alloc | apply Kd.S_drewN | apply Kd.S_drew)); exact Kd.S_mono HO_6.out (fun k_ hk => ⟨trivial, fun e_ => hk e_⟩))); (case aS => exact (below_size (by repeat (first | (with_reducible first | exact HB.out | apply bA | apply bN | apply b1 | refine bS ?_ GE138.out) | exact HB.out)))); (case aL => have := LMc21.out; omega); intro v150 w22 ho hb hg hat; rw [← Ny149.out] at ho; have n0_ := aM (blk_grown (g := gb138) (o := .cells #[.int .i64 a0_0, .int .i64 a0_1, .int .i64 a0_2, .int .i64 a0_3, .slice A0_4 l0_4.length c0_4] 45 (0, 0)) (by (with_reducible repeat (first | apply kN | apply kD | apply kA)); exact BK138.out) hg (Kd.S_ne HO_6.out BK138.out (by decide))); have n1_ := aM (hb); have n2_ := aM (ho); clear BK138; clear HB; clear HO_6; clear HO_8; have BK138 := n0_; have HB := n1_; have HO151 := n2_; clear n0_ n1_ n2_; clear ho hb hg hat))
           go_roundg k3
           case measure => have := HJ2.out; have := HK2.out; have := HK3.out; omega
           case rel => exact ⟨(y149), (wrap64 (x7_2 + 1)), (by first | rfl | (simp; done) | (simp [*]; done)), H', ⟨by have := HJ2.out; have := HK2.out; have := HK3.out; omega⟩, ⟨by (with_reducible repeat (first | apply Kd.S_alloc | apply Kd.S_drewN | apply Kd.S_drew)); exact HO151.out⟩, ⟨by (with_reducible repeat (first | apply kN | apply kD | apply kA)); exact BK138.out⟩, ⟨by repeat (first | (with_reducible first | exact HB.out | apply bA | apply bN | apply b1 | refine bS ?_ GE138.out) | exact HB.out)⟩⟩
          ·rw [if_neg c21] at H
           exact absurd H (by simp)
      ·rw [if_neg c14] at H
       have c14b0 : decide (x7_2 < (l0_4.length : Int)) = false := decide_eq_false c14
       clear c14
       have H' := aM H
       clear H
       have hcz24_0 : wr.cell? ⟨gb138, 0, none⟩ = some (.int .i64 a0_0) := (kC BK138.out 0).trans rfl
       have hcz24_1 : wr.cell? ⟨gb138, 1, none⟩ = some (.int .i64 a0_1) := (kC BK138.out 1).trans rfl
       have hcz24_2 : wr.cell? ⟨gb138, 2, none⟩ = some (.int .i64 a0_2) := (kC BK138.out 2).trans rfl
       have hcz24_3 : wr.cell? ⟨gb138, 3, none⟩ = some (.int .i64 a0_3) := (kC BK138.out 3).trans rfl
       have hcz24_4 : wr.cell? ⟨gb138, 4, none⟩ = some (.slice A0_4 l0_4.length c0_4) := (kC BK138.out 4).trans rfl
       go_wp2
       go_loopg [10] k2 (fun kq v10 w' => ∃ (x6_3 : List (List Int)) (x10_3 : Int), v10 = .int .i64 x10_3 ∧ Aside0 (spec_l12Left.l2 kq l1 x6_3 x10_3 a0_0 a0_1 a0_2 a0_3 l0_4 = some (r1, r2)) ∧ Aside0 (kq ≤ k2) ∧ Aside0 (Kd.S (Kd.slice 3 (Kd.int .i64)) 22 w' w.heap.size (fun _ => True) u6 x6_3) ∧ Aside0 (w'.heap[gb138]? = some (.cells #[.int .i64 a0_0, .int .i64 a0_1, .int .i64 a0_2, .int .i64 a0_3, (.slice A0_4 l0_4.length c0_4)] 45 (0, 0))) ∧ Aside0 (Below w.heap.size w w'))
       case atStart => exact ⟨(x6_2), (0), (by first | rfl | (simp; done) | (simp [*]; done)), H', ⟨Nat.le_refl _⟩, ⟨by (with_reducible repeat (first | apply Kd.S_alloc | apply Kd.S_drewN | apply Kd.S_drew)); exact HO_6.out⟩, ⟨by (with_reducible repeat (first | apply kN | apply kD | apply kA)); exact BK138.out⟩, ⟨by repeat (first | (with_reducible first | exact HB.out | apply bA | apply bN | apply b1 | refine bS ?_ GE138.out) | exact HB.out)⟩⟩
       case round =>
        clear H'
        (try clear c1); (try clear c2); (try clear p2); (try clear p6); (try clear c8); (try clear c13); (try clear c14); (try clear c14b0); (try clear c18); (try clear c18b0); (try clear c19); (try clear c21); (try clear hcz11_0); (try clear hcz11_1); (try clear hcz11_2); (try clear hcz11_3); (try clear hcz11_4); (try clear hcz15_0); (try clear hcz15_1); (try clear hcz15_2); (try clear hcz15_3); (try clear hcz15_4); (try clear hcz24_0); (try clear hcz24_1); (try clear hcz24_2); (try clear hcz24_3); (try clear hcz24_4); (try clear hcz9_0); (try clear hcz9_1); (try clear hcz9_2); (try clear hcz9_3); (try clear hcz9_4); (try clear hfz11_0); (try clear hfz11_1); (try clear hfz11_2); (try clear hfz11_3); (try clear hfz11_4); (try clear hfz15_0); (try clear hfz15_1); (try clear hfz15_2); (try clear hfz15_3); (try clear hfz15_4); (try clear hfz24_0); (try clear hfz24_1); (try clear hfz24_2); (try clear hfz24_3); (try clear hfz24_4); (try clear hfz9_0); (try clear hfz9_1); (try clear hfz9_2); (try clear hfz9_3); (try clear hfz9_4); (try clear p2)
        obtain ⟨x6_3, x10_3, rfl, HA, HK3, HO_6, BK138, HB⟩ := hrel
        cases gk with
        | zero => exact absurd HA.out (by simp [spec_l12Left.l2])
        | succ k3 =>
         have H := HA.out
         clear HA
         simp only [spec_l12Left.l2] at H
         by_cases c25 : x10_3 < (l1.length : Int)
         ·rw [if_pos c25] at H
          have c25b0 : decide (x10_3 < (l1.length : Int)) = true := decide_eq_true c25
          clear c25
          by_cases c26 : 0 ≤ x10_3
          ·rw [if_pos c26] at H
           have c26b0 : decide (0 ≤ x10_3) = true := decide_eq_true c26
           clear c26
           replace H := oB H
           obtain ⟨t154, A270, H⟩ := H
           replace H : (if t154 = true then (if ((rd_T28 l1 x10_3).f3) = 0 then (spec_l12Left.j4 k3 l1 x6_3 x10_3 (-1) a0_0 a0_1 a0_2 a0_3 l0_4 ((rd_T28 l1 x10_3).f0) ((rd_T28 l1 x10_3).f1) ((rd_T28 l1 x10_3).f2) ((rd_T28 l1 x10_3).f3) ((rd_T28 l1 x10_3).f4)) else (spec_l12Left.j4 k3 l1 x6_3 x10_3 ((rd_T28 l1 x10_3).f3) a0_0 a0_1 a0_2 a0_3 l0_4 ((rd_T28 l1 x10_3).f0) ((rd_T28 l1 x10_3).f1) ((rd_T28 l1 x10_3).f2) ((rd_T28 l1 x10_3).f3) ((rd_T28 l1 x10_3).f4))) else (some ((([] : List (List Int))), false))) = some (r1, r2) := H
           have A27 := aM A270
           clear A270
           by_cases c28 : t154 = true
           ·subst c28
            have H1 : (if ((rd_T28 l1 x10_3).f3) = 0 then (spec_l12Left.j4 k3 l1 x6_3 x10_3 (-1) a0_0 a0_1 a0_2 a0_3 l0_4 ((rd_T28 l1 x10_3).f0) ((rd_T28 l1 x10_3).f1) ((rd_T28 l1 x10_3).f2) ((rd_T28 l1 x10_3).f3) ((rd_T28 l1 x10_3).f4)) else (spec_l12Left.j4 k3 l1 x6_3 x10_3 ((rd_T28 l1 x10_3).f3) a0_0 a0_1 a0_2 a0_3 l0_4 ((rd_T28 l1 x10_3).f0) ((rd_T28 l1 x10_3).f1) ((rd_T28 l1 x10_3).f2) ((rd_T28 l1 x10_3).f3) ((rd_T28 l1 x10_3).f4))) = some (r1, r2) := by rw [if_pos rfl] at H; exact H
            clear H
            have H := H1
            clear H1
            have HC29 := aM H
            clear H
            have p152 : 0 ≤ (x10_3 : Int) := oD (by first | (with_reducible assumption) | assumption)
            have q152 : x10_3 < (l1.length : Int) := oD (by first | (with_reducible assumption) | assumption)
            obtain ⟨ad152, A152_0, c152_0, e152, hx152_0, hx152_1, hx152_2, hx152_3, hx152_4, hl152_0, hi152_0⟩ := at_T28 HR1.out x10_3 p152 q152
            cases e152
            replace hx152_0 := (HB.out.cell (wL w _ hx152_0)).trans hx152_0
            replace hx152_1 := (HB.out.cell (wL w _ hx152_1)).trans hx152_1
            replace hx152_2 := (HB.out.cell (wL w _ hx152_2)).trans hx152_2
            replace hx152_3 := (HB.out.cell (wL w _ hx152_3)).trans hx152_3
            replace hx152_4 := (HB.out.cell (wL w _ hx152_4)).trans hx152_4
            have HR152_0 := aM hi152_0
            have HC152_0 := aM hl152_0
            clear hi152_0 hl152_0
            replace p152 := eq_true p152
            replace q152 := eq_true q152
            go_upto_if 62 with (first | ((with_reducible refine gate_dst (N := 11) rfl ?_); (try (refine gate_guard (by rfl) ?_; dsimp only)); refine box_event ?hg (N := 11) ?hd (cs := #[.slice none 0 0, .int .i64 0, .int .i64 0, .int .i64 0, .int .i64 0]) (t := 28) ?hr ?_; (case hd => rfl); (case hg => rfl); (case hr => first | (go_simp; done) | (go_simp; rfl)); intro gb153 hg w30 hbox hb; have n0_ := aM (Kd.S_below (by (with_reducible repeat (first | apply Kd.S_alloc | apply Kd.S_drewN | apply Kd.S_drew)); exact HO_6.out) hb); have n1_ := aM (blk_below (g := gb138) (o := .cells #[.int .i64 a0_0, .int .i64 a0_1, .int .i64 a0_2, .int .i64 a0_3, .slice A0_4 l0_4.length c0_4] 45 (0, 0)) (by (with_reducible repeat (first | apply kN | apply kD | apply kA)); exact BK138.out) hb); have n2_ := aM (below_step (by repeat (first | (with_reducible first | exact HB.out | apply bA | apply bN | apply b1 | refine bS ?_ GE138.out) | exact HB.out)) hb); have n3_ := aM (hbox); have n4_ := aM ((by rw [hg]; exact (below_size (by repeat (first | (with_reducible first | exact HB.out | apply bA | apply bN | apply b1 | refine bS ?_ GE138.out) | exact HB.out))) : w.heap.size ≤ gb153)); have n5_ := aM ((by rw [hg]; exact (below_size (by repeat (first | (with_reducible first | exact HB.out | apply bA | apply bN | apply b1 | refine bS ?_ GE138.out) | exact HB.out))) : w.heap.size ≤ gb153)); have n6_ := aM ((by rw [hg]; exact Nat.ne_of_lt (blk_lt (g := gb138) (o := .cells #[.int .i64 a0_0, .int .i64 a0_1, .int .i64 a0_2, .int .i64 a0_3, .slice A0_4 l0_4.length c0_4] 45 (0, 0)) (by (with_reducible repeat (first | apply kN | apply kD | apply kA)); exact BK138.out)) : gb138 ≠ gb153)); have n7_ := aM ((by rw [hg]; exact Nat.ne_of_gt (blk_lt (g := gb138) (o := .cells #[.int .i64 a0_0, .int .i64 a0_1, .int .i64 a0_2, .int .i64 a0_3, .slice A0_4 l0_4.length c0_4] 45 (0, 0)) (by (with_reducible repeat (first | apply kN | apply kD | apply kA)); exact BK138.out)) : gb153 ≠ gb138)); clear HO_6; clear BK138; clear HB; have HO_6 := n0_; have BK138 := n1_; have HB := n2_; have BK153 := n3_; have GW153 := n4_; have GE153 := n5_; have NB138_153 := n6_; have NB153_138 := n7_; clear n0_ n1_ n2_ n3_ n4_ n5_ n6_ n7_; clear hb hbox hg; have hnb31 := NB153_138.out; have hnc31 := NB138_153.out; have hcz32_0 : w30.cell? ⟨gb153, 0, none⟩ = some (.slice none 0 0) := (kC BK153.out 0).trans rfl; have hcz32_1 : w30.cell? ⟨gb153, 1, none⟩ = some (.int .i64 0) := (kC BK153.out 1).trans rfl; have hcz32_2 : w30.cell? ⟨gb153, 2, none⟩ = some (.int .i64 0) := (kC BK153.out 2).trans rfl; have hcz32_3 : w30.cell? ⟨gb153, 3, none⟩ = some (.int .i64 0) := (kC BK153.out 3).trans rfl; have hcz32_4 : w30.cell? ⟨gb153, 4, none⟩ = some (.int .i64 0) := (kC BK153.out 4).trans rfl; have hfz32_0 := blk_frozen BK153.out 0; have hfz32_1 := blk_frozen BK153.out 1; have hfz32_2 := blk_frozen BK153.out 2; have hfz32_3 := blk_frozen BK153.out 3; have hfz32_4 := blk_frozen BK153.out 4; have hcz33_0 : w30.cell? ⟨gb138, 0, none⟩ = some (.int .i64 a0_0) := (kC BK138.out 0).trans rfl; have hcz33_1 : w30.cell? ⟨gb138, 1, none⟩ = some (.int .i64 a0_1) := (kC BK138.out 1).trans rfl; have hcz33_2 : w30.cell? ⟨gb138, 2, none⟩ = some (.int .i64 a0_2) := (kC BK138.out 2).trans rfl; have hcz33_3 : w30.cell? ⟨gb138, 3, none⟩ = some (.int .i64 a0_3) := (kC BK138.out 3).trans rfl; have hcz33_4 : w30.cell? ⟨gb138, 4, none⟩ = some (.slice A0_4 l0_4.length c0_4) := (kC BK138.out 4).trans rfl; have hfz33_0 := blk_frozen BK138.out 0; have hfz33_1 := blk_frozen BK138.out 1; have hfz33_2 := blk_frozen BK138.out 2; have hfz33_3 := blk_frozen BK138.out 3; have hfz33_4 := blk_frozen BK138.out 4) | ((with_reducible refine gate_callee (f := 40) rfl ?_); refine goesL_ (some 56) rfl rfl Try.func40 (by kernel_rfl) rfl #[.agg #[.int .i64 a0_0, .int .i64 a0_1, .int .i64 a0_2, .int .i64 a0_3, .slice A0_4 l0_4.length c0_4], .agg #[.slice A152_0 ((rd_T28 l1 x10_3).f0).length c152_0, .int .i64 ((rd_T28 l1 x10_3).f1), .int .i64 ((rd_T28 l1 x10_3).f2), .int .i64 ((rd_T28 l1 x10_3).f3), .int .i64 ((rd_T28 l1 x10_3).f4)]] rfl (by (try simp only [List.map_toArray, List.map_cons, List.map_nil]); first | done | rfl | (simp only [List.length_drop, List.length_take]; rfl)) ?_; (with_reducible refine (spec_ScanOk.calls k3 a0_0 a0_1 a0_2 a0_3 _ _ l0_4 _ _ ((rd_T28 l1 x10_3).f0) ((rd_T28 l1 x10_3).f1) ((rd_T28 l1 x10_3).f2) ((rd_T28 l1 x10_3).f3) ((rd_T28 l1 x10_3).f4) true _ ?side1 ?side2 ?side3 ?side4 A27.out).mono ?_); (case side1 => exact Kd.C_below HR0_4.out (by repeat (first | (with_reducible first | exact HB.out | apply bA | apply bN | apply b1 | refine bS ?_ GE138.out | refine bS ?_ GE153.out) | exact HB.out))); (case side2 => exact HC0_4.out); (case side3 => exact Kd.C_below HR152_0.out (by repeat (first | (with_reducible first | exact HB.out | apply bA | apply bN | apply b1 | refine bS ?_ GE138.out | refine bS ?_ GE153.out) | exact HB.out))); (case side4 => exact HC152_0.out); rintro e w34 ⟨rfl, hb⟩; refine ⟨_, rfl, ?_⟩; have n0_ := aM (Kd.S_below (by (with_reducible repeat (first | apply Kd.S_alloc | apply Kd.S_drewN | apply Kd.S_drew)); exact (Kd.S_mono (Kd.S_far (p := ⟨gb153, 4, none⟩) (Kd.S_far (p := ⟨gb153, 3, none⟩) (Kd.S_far (p := ⟨gb153, 2, none⟩) (Kd.S_far (p := ⟨gb153, 1, none⟩) (Kd.S_far (p := ⟨gb153, 0, none⟩) (Kd.S_types HO_6.out BK153.out (by decide)) (fun _ hk => hk.2) (.slice A152_0 ((rd_T28 l1 x10_3).f0).length c152_0)) (fun _ hk => hk.2) (.int .i64 ((rd_T28 l1 x10_3).f1))) (fun _ hk => hk.2) (.int .i64 ((rd_T28 l1 x10_3).f2))) (fun _ hk => hk.2) (.int .i64 ((rd_T28 l1 x10_3).f3))) (fun _ hk => hk.2) (.int .i64 ((rd_T28 l1 x10_3).f4))) (fun _ h_ => h_.1))) hb); have n1_ := aM (blk_below (g := gb138) (o := .cells #[.int .i64 a0_0, .int .i64 a0_1, .int .i64 a0_2, .int .i64 a0_3, .slice A0_4 l0_4.length c0_4] 45 (0, 0)) (by (with_reducible repeat (first | apply kN | apply kD | apply kA)); refine blk_far ?_ NB138_153.out _; (with_reducible repeat (first | apply kN | apply kD | apply kA)); refine blk_far ?_ NB138_153.out _; (with_reducible repeat (first | apply kN | apply kD | apply kA)); refine blk_far ?_ NB138_153.out _; (with_reducible repeat (first | apply kN | apply kD | apply kA)); refine blk_far ?_ NB138_153.out _; (with_reducible repeat (first | apply kN | apply kD | apply kA)); refine blk_far ?_ NB138_153.out _; (with_reducible repeat (first | apply kN | apply kD | apply kA)); exact BK138.out) hb); have n2_ := aM (blk_below (g := gb153) (o := .cells #[.slice A152_0 ((rd_T28 l1 x10_3).f0).length c152_0, .int .i64 ((rd_T28 l1 x10_3).f1), .int .i64 ((rd_T28 l1 x10_3).f2), .int .i64 ((rd_T28 l1 x10_3).f3), .int .i64 ((rd_T28 l1 x10_3).f4)] 28 (0, 0)) (by (with_reducible repeat (first | apply kN | apply kD | apply kA)); refine blk_put (cs := #[.slice A152_0 ((rd_T28 l1 x10_3).f0).length c152_0, .int .i64 ((rd_T28 l1 x10_3).f1), .int .i64 ((rd_T28 l1 x10_3).f2), .int .i64 ((rd_T28 l1 x10_3).f3), .int .i64 0]) ?_ 4 _ rfl; (with_reducible repeat (first | apply kN | apply kD | apply kA)); refine blk_put (cs := #[.slice A152_0 ((rd_T28 l1 x10_3).f0).length c152_0, .int .i64 ((rd_T28 l1 x10_3).f1), .int .i64 ((rd_T28 l1 x10_3).f2), .int .i64 0, .int .i64 0]) ?_ 3 _ rfl; (with_reducible repeat (first | apply kN | apply kD | apply kA)); refine blk_put (cs := #[.slice A152_0 ((rd_T28 l1 x10_3).f0).length c152_0, .int .i64 ((rd_T28 l1 x10_3).f1), .int .i64 0, .int .i64 0, .int .i64 0]) ?_ 2 _ rfl; (with_reducible repeat (first | apply kN | apply kD | apply kA)); refine blk_put (cs := #[.slice A152_0 ((rd_T28 l1 x10_3).f0).length c152_0, .int .i64 0, .int .i64 0, .int .i64 0, .int .i64 0]) ?_ 1 _ rfl; (with_reducible repeat (first | apply kN | apply kD | apply kA)); refine blk_put (cs := #[.slice none 0 0, .int .i64 0, .int .i64 0, .int .i64 0, .int .i64 0]) ?_ 0 _ rfl; (with_reducible repeat (first | apply kN | apply kD | apply kA)); exact BK153.out) hb); have n3_ := aM (below_step (by repeat (first | (with_reducible first | exact HB.out | apply bA | apply bN | apply b1 | refine bS ?_ GE138.out | refine bS ?_ GE153.out) | exact HB.out)) hb); clear HO_6; clear BK138; clear BK153; clear HB; have HO_6 := n0_; have BK138 := n1_; have BK153 := n2_; have HB := n3_; clear n0_ n1_ n2_ n3_; (try clear hb); (try clear hb2); (try clear hk); (try clear hi); have hcz35_0 : w34.cell? ⟨gb153, 0, none⟩ = some (.slice A152_0 ((rd_T28 l1 x10_3).f0).length c152_0) := (kC BK153.out 0).trans rfl; have hcz35_1 : w34.cell? ⟨gb153, 1, none⟩ = some (.int .i64 ((rd_T28 l1 x10_3).f1)) := (kC BK153.out 1).trans rfl; have hcz35_2 : w34.cell? ⟨gb153, 2, none⟩ = some (.int .i64 ((rd_T28 l1 x10_3).f2)) := (kC BK153.out 2).trans rfl; have hcz35_3 : w34.cell? ⟨gb153, 3, none⟩ = some (.int .i64 ((rd_T28 l1 x10_3).f3)) := (kC BK153.out 3).trans rfl; have hcz35_4 : w34.cell? ⟨gb153, 4, none⟩ = some (.int .i64 ((rd_T28 l1 x10_3).f4)) := (kC BK153.out 4).trans rfl; have hfz35_0 := blk_frozen BK153.out 0; have hfz35_1 := blk_frozen BK153.out 1; have hfz35_2 := blk_frozen BK153.out 2; have hfz35_3 := blk_frozen BK153.out 3; have hfz35_4 := blk_frozen BK153.out 4))
            (try simp only [Act.put, List.setIfInBounds_toArray, List.set_cons_zero, List.set_cons_succ])
            go_cut [12] (fun v12 wc => ∃ (kq : Nat) (x12_28 : Int), v12 = .int .i64 x12_28 ∧ Aside0 (spec_l12Left.j4 kq l1 x6_3 x10_3 x12_28 a0_0 a0_1 a0_2 a0_3 l0_4 ((rd_T28 l1 x10_3).f0) ((rd_T28 l1 x10_3).f1) ((rd_T28 l1 x10_3).f2) ((rd_T28 l1 x10_3).f3) ((rd_T28 l1 x10_3).f4) = some (r1, r2)) ∧ Aside0 (kq ≤ k3) ∧ Aside0 (Kd.S (Kd.slice 3 (Kd.int .i64)) 22 wc w.heap.size (fun _ => True) u6 x6_3) ∧ Aside0 (wc.heap[gb138]? = some (.cells #[.int .i64 a0_0, .int .i64 a0_1, .int .i64 a0_2, .int .i64 a0_3, (.slice A0_4 l0_4.length c0_4)] 45 (0, 0))) ∧ Aside0 (wc.heap[gb153]? = some (.cells #[(.slice A152_0 ((rd_T28 l1 x10_3).f0).length c152_0), .int .i64 ((rd_T28 l1 x10_3).f1), .int .i64 ((rd_T28 l1 x10_3).f2), .int .i64 ((rd_T28 l1 x10_3).f3), .int .i64 ((rd_T28 l1 x10_3).f4)] 28 (0, 0))) ∧ Aside0 (Below w.heap.size w wc))
            case first =>
             have H := HC29.out
             clear HC29
             by_cases c36 : ((rd_T28 l1 x10_3).f3) = 0
             ·rw [if_pos c36] at H
              have c36b0 : (((rd_T28 l1 x10_3).f3) == 0) = true := beq_iff_eq.mpr c36
              have c36b1 : (((rd_T28 l1 x10_3).f3) != 0) = false := bne_eq_false_iff_eq.mpr c36
              clear c36
              (first | rw [c36b0] | (simp only [i64_w, i32_w]; rw [c36b0]) | skip)
              have H' := aM H
              clear H
              go_wp2
              go_meet
              case rel => exact ⟨_, ((-1)), (by first | rfl | (simp; done) | (simp [*]; done)), H', ⟨by have := HJ2.out; have := HK2.out; have := HK3.out; first | omega | exact Nat.le_refl _⟩, ⟨by (with_reducible repeat (first | apply Kd.S_alloc | apply Kd.S_drewN | apply Kd.S_drew)); exact HO_6.out⟩, ⟨by (with_reducible repeat (first | apply kN | apply kD | apply kA)); exact BK138.out⟩, ⟨by (with_reducible repeat (first | apply kN | apply kD | apply kA)); exact BK153.out⟩, ⟨by repeat (first | (with_reducible first | exact HB.out | apply bA | apply bN | apply b1 | refine bS ?_ GE138.out | refine bS ?_ GE153.out) | exact HB.out)⟩⟩
             ·rw [if_neg c36] at H
              have c36b0 : (((rd_T28 l1 x10_3).f3) == 0) = false := beq_eq_false_iff_ne.mpr c36
              have c36b1 : (((rd_T28 l1 x10_3).f3) != 0) = true := bne_iff_ne.mpr c36
              (first | rw [c36b0] | (simp only [i64_w, i32_w]; rw [c36b0]) | skip)
              have H' := aM H
              clear H
              go_wp2
              go_meet
              case rel => exact ⟨_, ((rd_T28 l1 x10_3).f3), (by first | rfl | (simp; done) | (simp [*]; done)), H', ⟨by have := HJ2.out; have := HK2.out; have := HK3.out; first | omega | exact Nat.le_refl _⟩, ⟨by (with_reducible repeat (first | apply Kd.S_alloc | apply Kd.S_drewN | apply Kd.S_drew)); exact HO_6.out⟩, ⟨by (with_reducible repeat (first | apply kN | apply kD | apply kA)); exact BK138.out⟩, ⟨by (with_reducible repeat (first | apply kN | apply kD | apply kA)); exact BK153.out⟩, ⟨by repeat (first | (with_reducible first | exact HB.out | apply bA | apply bN | apply b1 | refine bS ?_ GE138.out | refine bS ?_ GE153.out) | exact HB.out)⟩⟩
            case rest =>
             clear HC29
             (try clear c1); (try clear p1); (try clear q1); (try clear hx1); (try clear c2); (try clear p2); (try clear c3); (try clear c4); (try clear p6); (try clear c8); (try clear c13); (try clear c14); (try clear c14b0); (try clear c15); (try clear p15); (try clear q15); (try clear hx15); (try clear c18); (try clear c18b0); (try clear c19); (try clear c21); (try clear c25); (try clear c25b0); (try clear c26); (try clear c26b0); (try clear c28); (try clear c31); (try clear c36); (try clear c36b0); (try clear c36b1); (try clear hcz11_0); (try clear hcz11_1); (try clear hcz11_2); (try clear hcz11_3); (try clear hcz11_4); (try clear hcz15_0); (try clear hcz15_1); (try clear hcz15_2); (try clear hcz15_3); (try clear hcz15_4); (try clear hcz24_0); (try clear hcz24_1); (try clear hcz24_2); (try clear hcz24_3); (try clear hcz24_4); (try clear hcz32_0); (try clear hcz32_1); (try clear hcz32_2); (try clear hcz32_3); (try clear hcz32_4); (try clear hcz33_0); (try clear hcz33_1); (try clear hcz33_2); (try clear hcz33_3); (try clear hcz33_4); (try clear hcz35_0); (try clear hcz35_1); (try clear hcz35_2); (try clear hcz35_3); (try clear hcz35_4); (try clear hcz9_0); (try clear hcz9_1); (try clear hcz9_2); (try clear hcz9_3); (try clear hcz9_4); (try clear hfz11_0); (try clear hfz11_1); (try clear hfz11_2); (try clear hfz11_3); (try clear hfz11_4); (try clear hfz15_0); (try clear hfz15_1); (try clear hfz15_2); (try clear hfz15_3); (try clear hfz15_4); (try clear hfz24_0); (try clear hfz24_1); (try clear hfz24_2); (try clear hfz24_3); (try clear hfz24_4); (try clear hfz32_0); (try clear hfz32_1); (try clear hfz32_2); (try clear hfz32_3); (try clear hfz32_4); (try clear hfz33_0); (try clear hfz33_1); (try clear hfz33_2); (try clear hfz33_3); (try clear hfz33_4); (try clear hfz35_0); (try clear hfz35_1); (try clear hfz35_2); (try clear hfz35_3); (try clear hfz35_4); (try clear hfz9_0); (try clear hfz9_1); (try clear hfz9_2); (try clear hfz9_3); (try clear hfz9_4); (try clear hx152_0); (try clear hx152_1); (try clear hx152_2); (try clear hx152_3); (try clear hx152_4); (try clear p152); (try clear p2); (try clear p6); (try clear q152)
             obtain ⟨kq, x12_28, rfl, HA, HJ28, HO_6, BK138, BK153, HB⟩ := hcut
             cases kq with
             | zero => exact absurd HA.out (by simp [spec_l12Left.j4])
             | succ kj28 =>
              have H := HA.out
              clear HA
              simp only [spec_l12Left.j4] at H
              have H' := aM H
              clear H
              go_wp2
              go_loopg [13] kj28 (fun kq v13 w' => ∃ (x6_5 : List (List Int)) (x13_5 : Int), v13 = .int .i64 x13_5 ∧ Aside0 (spec_l12Left.l3 kq l1 x6_5 x10_3 x12_28 x13_5 a0_0 a0_1 a0_2 a0_3 l0_4 ((rd_T28 l1 x10_3).f0) ((rd_T28 l1 x10_3).f1) ((rd_T28 l1 x10_3).f2) ((rd_T28 l1 x10_3).f3) ((rd_T28 l1 x10_3).f4) = some (r1, r2)) ∧ Aside0 (kq ≤ kj28) ∧ Aside0 (Kd.S (Kd.slice 3 (Kd.int .i64)) 22 w' w.heap.size (fun _ => True) u6 x6_5) ∧ Aside0 (w'.heap[gb138]? = some (.cells #[.int .i64 a0_0, .int .i64 a0_1, .int .i64 a0_2, .int .i64 a0_3, (.slice A0_4 l0_4.length c0_4)] 45 (0, 0))) ∧ Aside0 (w'.heap[gb153]? = some (.cells #[(.slice A152_0 ((rd_T28 l1 x10_3).f0).length c152_0), .int .i64 ((rd_T28 l1 x10_3).f1), .int .i64 ((rd_T28 l1 x10_3).f2), .int .i64 ((rd_T28 l1 x10_3).f3), .int .i64 ((rd_T28 l1 x10_3).f4)] 28 (0, 0))) ∧ Aside0 (Below w.heap.size w w'))
              case atStart => exact ⟨(x6_3), (0), (by first | rfl | (simp; done) | (simp [*]; done)), H', ⟨Nat.le_refl _⟩, ⟨by (with_reducible repeat (first | apply Kd.S_alloc | apply Kd.S_drewN | apply Kd.S_drew)); exact HO_6.out⟩, ⟨by (with_reducible repeat (first | apply kN | apply kD | apply kA)); exact BK138.out⟩, ⟨by (with_reducible repeat (first | apply kN | apply kD | apply kA)); exact BK153.out⟩, ⟨by repeat (first | (with_reducible first | exact HB.out | apply bA | apply bN | apply b1 | refine bS ?_ GE138.out | refine bS ?_ GE153.out) | exact HB.out)⟩⟩
              case round =>
               clear H'
               (try clear c1); (try clear p1); (try clear q1); (try clear hx1); (try clear c2); (try clear p2); (try clear c3); (try clear c4); (try clear p6); (try clear c8); (try clear c13); (try clear c14); (try clear c14b0); (try clear c15); (try clear p15); (try clear q15); (try clear hx15); (try clear c18); (try clear c18b0); (try clear c19); (try clear c21); (try clear c25); (try clear c25b0); (try clear c26); (try clear c26b0); (try clear c28); (try clear c31); (try clear c36); (try clear c36b0); (try clear c36b1); (try clear hcz11_0); (try clear hcz11_1); (try clear hcz11_2); (try clear hcz11_3); (try clear hcz11_4); (try clear hcz15_0); (try clear hcz15_1); (try clear hcz15_2); (try clear hcz15_3); (try clear hcz15_4); (try clear hcz24_0); (try clear hcz24_1); (try clear hcz24_2); (try clear hcz24_3); (try clear hcz24_4); (try clear hcz32_0); (try clear hcz32_1); (try clear hcz32_2); (try clear hcz32_3); (try clear hcz32_4); (try clear hcz33_0); (try clear hcz33_1); (try clear hcz33_2); (try clear hcz33_3); (try clear hcz33_4); (try clear hcz35_0); (try clear hcz35_1); (try clear hcz35_2); (try clear hcz35_3); (try clear hcz35_4); (try clear hcz9_0); (try clear hcz9_1); (try clear hcz9_2); (try clear hcz9_3); (try clear hcz9_4); (try clear hfz11_0); (try clear hfz11_1); (try clear hfz11_2); (try clear hfz11_3); (try clear hfz11_4); (try clear hfz15_0); (try clear hfz15_1); (try clear hfz15_2); (try clear hfz15_3); (try clear hfz15_4); (try clear hfz24_0); (try clear hfz24_1); (try clear hfz24_2); (try clear hfz24_3); (try clear hfz24_4); (try clear hfz32_0); (try clear hfz32_1); (try clear hfz32_2); (try clear hfz32_3); (try clear hfz32_4); (try clear hfz33_0); (try clear hfz33_1); (try clear hfz33_2); (try clear hfz33_3); (try clear hfz33_4); (try clear hfz35_0); (try clear hfz35_1); (try clear hfz35_2); (try clear hfz35_3); (try clear hfz35_4); (try clear hfz9_0); (try clear hfz9_1); (try clear hfz9_2); (try clear hfz9_3); (try clear hfz9_4); (try clear hx152_0); (try clear hx152_1); (try clear hx152_2); (try clear hx152_3); (try clear hx152_4); (try clear p1); (try clear p15); (try clear p152); (try clear p2); (try clear p6); (try clear q1); (try clear q15); (try clear q152)
               obtain ⟨x6_5, x13_5, rfl, HA, HK5, HO_6, BK138, BK153, HB⟩ := hrel
               cases gk with
               | zero => exact absurd HA.out (by simp [spec_l12Left.l3])
               | succ k5 =>
                have H := HA.out
                clear HA
                simp only [spec_l12Left.l3] at H
                by_cases c37 : x13_5 < (((rd_T28 l1 x10_3).f0).length : Int)
                ·rw [if_pos c37] at H
                 have c37b0 : decide (x13_5 < (((rd_T28 l1 x10_3).f0).length : Int)) = true := decide_eq_true c37
                 clear c37
                 have H' := aM H
                 clear H
                 have hnb38 := NB153_138.out
                 have hnc38 := NB138_153.out
                 have hcz39_0 : wr.cell? ⟨gb153, 0, none⟩ = some (.slice A152_0 ((rd_T28 l1 x10_3).f0).length c152_0) := (kC BK153.out 0).trans rfl
                 have hcz39_1 : wr.cell? ⟨gb153, 1, none⟩ = some (.int .i64 ((rd_T28 l1 x10_3).f1)) := (kC BK153.out 1).trans rfl
                 have hcz39_2 : wr.cell? ⟨gb153, 2, none⟩ = some (.int .i64 ((rd_T28 l1 x10_3).f2)) := (kC BK153.out 2).trans rfl
                 have hcz39_3 : wr.cell? ⟨gb153, 3, none⟩ = some (.int .i64 ((rd_T28 l1 x10_3).f3)) := (kC BK153.out 3).trans rfl
                 have hcz39_4 : wr.cell? ⟨gb153, 4, none⟩ = some (.int .i64 ((rd_T28 l1 x10_3).f4)) := (kC BK153.out 4).trans rfl
                 go_wp2
                 go_loopg [14] k5 (fun kq v14 w' => ∃ (x6_6 : List (List Int)) (x14_6 : Int), v14 = .int .i64 x14_6 ∧ Aside0 (spec_l12Left.l4 kq l1 x6_6 x10_3 x12_28 x13_5 x14_6 a0_0 a0_1 a0_2 a0_3 l0_4 ((rd_T28 l1 x10_3).f0) ((rd_T28 l1 x10_3).f1) ((rd_T28 l1 x10_3).f2) ((rd_T28 l1 x10_3).f3) ((rd_T28 l1 x10_3).f4) = some (r1, r2)) ∧ Aside0 (kq ≤ k5) ∧ Aside0 (Kd.S (Kd.slice 3 (Kd.int .i64)) 22 w' w.heap.size (fun _ => True) u6 x6_6) ∧ Aside0 (w'.heap[gb138]? = some (.cells #[.int .i64 a0_0, .int .i64 a0_1, .int .i64 a0_2, .int .i64 a0_3, (.slice A0_4 l0_4.length c0_4)] 45 (0, 0))) ∧ Aside0 (w'.heap[gb153]? = some (.cells #[(.slice A152_0 ((rd_T28 l1 x10_3).f0).length c152_0), .int .i64 ((rd_T28 l1 x10_3).f1), .int .i64 ((rd_T28 l1 x10_3).f2), .int .i64 ((rd_T28 l1 x10_3).f3), .int .i64 ((rd_T28 l1 x10_3).f4)] 28 (0, 0))) ∧ Aside0 (Below w.heap.size w w'))
                 case atStart => exact ⟨(x6_5), (((rd_T28 l1 x10_3).f1)), (by first | rfl | (simp; done) | (simp [*]; done)), H', ⟨Nat.le_refl _⟩, ⟨by (with_reducible repeat (first | apply Kd.S_alloc | apply Kd.S_drewN | apply Kd.S_drew)); exact HO_6.out⟩, ⟨by (with_reducible repeat (first | apply kN | apply kD | apply kA)); exact BK138.out⟩, ⟨by (with_reducible repeat (first | apply kN | apply kD | apply kA)); exact BK153.out⟩, ⟨by repeat (first | (with_reducible first | exact HB.out | apply bA | apply bN | apply b1 | refine bS ?_ GE138.out | refine bS ?_ GE153.out) | exact HB.out)⟩⟩
                 case round =>
                  clear H'
                  (try clear c1); (try clear p1); (try clear q1); (try clear hx1); (try clear c2); (try clear p2); (try clear c3); (try clear c4); (try clear p6); (try clear c8); (try clear c13); (try clear c14); (try clear c14b0); (try clear c15); (try clear p15); (try clear q15); (try clear hx15); (try clear c18); (try clear c18b0); (try clear c19); (try clear c21); (try clear c25); (try clear c25b0); (try clear c26); (try clear c26b0); (try clear c28); (try clear c31); (try clear c36); (try clear c36b0); (try clear c36b1); (try clear c37); (try clear c37b0); (try clear c38); (try clear hcz11_0); (try clear hcz11_1); (try clear hcz11_2); (try clear hcz11_3); (try clear hcz11_4); (try clear hcz15_0); (try clear hcz15_1); (try clear hcz15_2); (try clear hcz15_3); (try clear hcz15_4); (try clear hcz24_0); (try clear hcz24_1); (try clear hcz24_2); (try clear hcz24_3); (try clear hcz24_4); (try clear hcz32_0); (try clear hcz32_1); (try clear hcz32_2); (try clear hcz32_3); (try clear hcz32_4); (try clear hcz33_0); (try clear hcz33_1); (try clear hcz33_2); (try clear hcz33_3); (try clear hcz33_4); (try clear hcz35_0); (try clear hcz35_1); (try clear hcz35_2); (try clear hcz35_3); (try clear hcz35_4); (try clear hcz39_0); (try clear hcz39_1); (try clear hcz39_2); (try clear hcz39_3); (try clear hcz39_4); (try clear hcz9_0); (try clear hcz9_1); (try clear hcz9_2); (try clear hcz9_3); (try clear hcz9_4); (try clear hfz11_0); (try clear hfz11_1); (try clear hfz11_2); (try clear hfz11_3); (try clear hfz11_4); (try clear hfz15_0); (try clear hfz15_1); (try clear hfz15_2); (try clear hfz15_3); (try clear hfz15_4); (try clear hfz24_0); (try clear hfz24_1); (try clear hfz24_2); (try clear hfz24_3); (try clear hfz24_4); (try clear hfz32_0); (try clear hfz32_1); (try clear hfz32_2); (try clear hfz32_3); (try clear hfz32_4); (try clear hfz33_0); (try clear hfz33_1); (try clear hfz33_2); (try clear hfz33_3); (try clear hfz33_4); (try clear hfz35_0); (try clear hfz35_1); (try clear hfz35_2); (try clear hfz35_3); (try clear hfz35_4); (try clear hfz39_0); (try clear hfz39_1); (try clear hfz39_2); (try clear hfz39_3); (try clear hfz39_4); (try clear hfz9_0); (try clear hfz9_1); (try clear hfz9_2); (try clear hfz9_3); (try clear hfz9_4); (try clear hx152_0); (try clear hx152_1); (try clear hx152_2); (try clear hx152_3); (try clear hx152_4); (try clear p1); (try clear p15); (try clear p152); (try clear p2); (try clear p6); (try clear q1); (try clear q15); (try clear q152)
                  obtain ⟨x6_6, x14_6, rfl, HA, HK6, HO_6, BK138, BK153, HB⟩ := hrel
                  cases gk with
                  | zero => exact absurd HA.out (by simp [spec_l12Left.l4])
                  | succ k6 =>
                   have H := HA.out
                   clear HA
                   simp only [spec_l12Left.l4] at H
                   by_cases c40 : x14_6 ≤ ((rd_T28 l1 x10_3).f2)
                   ·rw [if_pos c40] at H
                    have c40b0 : decide (x14_6 ≤ ((rd_T28 l1 x10_3).f2)) = true := decide_eq_true c40
                    clear c40
                    by_cases c41 : 0 ≤ x13_5
                    ·rw [if_pos c41] at H
                     have c41b0 : decide (0 ≤ x13_5) = true := decide_eq_true c41
                     clear c41
                     by_cases c42 : x13_5 < (((rd_T28 l1 x10_3).f0).length : Int)
                     ·rw [if_pos c42] at H
                      have c42b0 : decide (x13_5 < (((rd_T28 l1 x10_3).f0).length : Int)) = true := decide_eq_true c42
                      clear c42
                      by_cases c43 : 0 ≤ (rd ((rd_T28 l1 x10_3).f0) x13_5)
                      ·rw [if_pos c43] at H
                       have c43b0 : decide (0 ≤ (rd ((rd_T28 l1 x10_3).f0) x13_5)) = true := decide_eq_true c43
                       clear c43
                       by_cases c44 : (rd ((rd_T28 l1 x10_3).f0) x13_5) < (x6_6.length : Int)
                       ·rw [if_pos c44] at H
                        have c44b0 : decide ((rd ((rd_T28 l1 x10_3).f0) x13_5) < (x6_6.length : Int)) = true := decide_eq_true c44
                        clear c44
                        by_cases c45 : 0 ≤ x14_6
                        ·rw [if_pos c45] at H
                         have c45b0 : decide (0 ≤ x14_6) = true := decide_eq_true c45
                         clear c45
                         by_cases c46 : x14_6 < ((rd_L2 x6_6 (rd ((rd_T28 l1 x10_3).f0) x13_5)).length : Int)
                         ·rw [if_pos c46] at H
                          have c46b0 : decide (x14_6 < ((rd_L2 x6_6 (rd ((rd_T28 l1 x10_3).f0) x13_5)).length : Int)) = true := decide_eq_true c46
                          clear c46
                          by_cases c47 : (rd (rd_L2 x6_6 (rd ((rd_T28 l1 x10_3).f0) x13_5)) x14_6) = x12_28
                          ·rw [if_pos c47] at H
                           have c47b0 : ((rd (rd_L2 x6_6 (rd ((rd_T28 l1 x10_3).f0) x13_5)) x14_6) == x12_28) = true := beq_iff_eq.mpr c47
                           have c47b1 : ((rd (rd_L2 x6_6 (rd ((rd_T28 l1 x10_3).f0) x13_5)) x14_6) != x12_28) = false := bne_eq_false_iff_eq.mpr c47
                           clear c47
                           obtain ⟨y163, hy163⟩ : ∃ y_ : List Int, y_ = ((rd_L2 x6_6 (rd ((rd_T28 l1 x10_3).f0) x13_5)).set (x14_6 : Int).toNat ((rd_T28 l1 x10_3).f4)) := ⟨_, rfl⟩
                           replace H : (spec_l12Left.l4 k6 l1 (x6_6.set ((rd ((rd_T28 l1 x10_3).f0) x13_5) : Int).toNat y163) x10_3 x12_28 x13_5 (wrap64 (x14_6 + 1)) a0_0 a0_1 a0_2 a0_3 l0_4 ((rd_T28 l1 x10_3).f0) ((rd_T28 l1 x10_3).f1) ((rd_T28 l1 x10_3).f2) ((rd_T28 l1 x10_3).f3) ((rd_T28 l1 x10_3).f4)) = some (r1, r2) := by first | (rw [hy163]; with_reducible exact H) | (have H2_ := (Option.bind_some _ _).symm.trans H; rw [hy163]; with_reducible exact H2_) | (have H2_ := (Option.bind_some _ _).symm.trans H; with_reducible exact H2_) | with_reducible exact H | (rw [hy163]; exact H) | exact H
                           have Ny163 := aM hy163
                           clear hy163
                           obtain ⟨y165, hy165⟩ : ∃ y_ : List (List Int), y_ = (x6_6.set ((rd ((rd_T28 l1 x10_3).f0) x13_5) : Int).toNat y163) := ⟨_, rfl⟩
                           replace H : (spec_l12Left.l4 k6 l1 y165 x10_3 x12_28 x13_5 (wrap64 (x14_6 + 1)) a0_0 a0_1 a0_2 a0_3 l0_4 ((rd_T28 l1 x10_3).f0) ((rd_T28 l1 x10_3).f1) ((rd_T28 l1 x10_3).f2) ((rd_T28 l1 x10_3).f3) ((rd_T28 l1 x10_3).f4)) = some (r1, r2) := by first | (rw [hy165]; with_reducible exact H) | (have H2_ := (Option.bind_some _ _).symm.trans H; rw [hy165]; with_reducible exact H2_) | (have H2_ := (Option.bind_some _ _).symm.trans H; with_reducible exact H2_) | with_reducible exact H | (rw [hy165]; exact H) | exact H
                           have Ny165 := aM hy165
                           clear hy165
                           have H' := aM H
                           clear H
                           have hnb49 := NB153_138.out
                           have hnc49 := NB138_153.out
                           have hcz50_0 : wr.cell? ⟨gb153, 0, none⟩ = some (.slice A152_0 ((rd_T28 l1 x10_3).f0).length c152_0) := (kC BK153.out 0).trans rfl
                           have hcz50_1 : wr.cell? ⟨gb153, 1, none⟩ = some (.int .i64 ((rd_T28 l1 x10_3).f1)) := (kC BK153.out 1).trans rfl
                           have hcz50_2 : wr.cell? ⟨gb153, 2, none⟩ = some (.int .i64 ((rd_T28 l1 x10_3).f2)) := (kC BK153.out 2).trans rfl
                           have hcz50_3 : wr.cell? ⟨gb153, 3, none⟩ = some (.int .i64 ((rd_T28 l1 x10_3).f3)) := (kC BK153.out 3).trans rfl
                           have hcz50_4 : wr.cell? ⟨gb153, 4, none⟩ = some (.int .i64 ((rd_T28 l1 x10_3).f4)) := (kC BK153.out 4).trans rfl
                           have p158 : 0 ≤ (x13_5 : Int) := oD (by first | (with_reducible assumption) | assumption)
                           have q158 : x13_5 < (((rd_T28 l1 x10_3).f0).length : Int) := oD (by first | (with_reducible assumption) | assumption)
                           obtain ⟨ad158, e158, hx158_0⟩ := Kd.at_int HR152_0.out x13_5 p158 q158
                           cases e158
                           replace hx158_0 := (HB.out.cell (wL w _ hx158_0)).trans hx158_0
                           replace p158 := eq_true p158
                           replace q158 := eq_true q158
                           obtain ⟨Ao51, co51, eo51⟩ := Kd.S_slice HO_6.out
                           subst eo51
                           have p159 : 0 ≤ ((rd ((rd_T28 l1 x10_3).f0) x13_5) : Int) := oD (by first | (with_reducible assumption) | assumption)
                           have q159 : (rd ((rd_T28 l1 x10_3).f0) x13_5) < (x6_6.length : Int) := oD (by first | (with_reducible assumption) | assumption)
                           obtain ⟨ad159, A159_0, c159_0, e159, hx159_0, hl159_0, hi159_0⟩ := at_L2 (Kd.S_reads' HO_6.out).2.2 (rd ((rd_T28 l1 x10_3).f0) x13_5) p159 q159
                           cases e159
                           obtain ⟨ce159, hce159, hMe159, hcc159⟩ := Kd.S_get HO_6.out [] (rd ((rd_T28 l1 x10_3).f0) x13_5) p159 (by first | exact q159 | exact oD (by first | (with_reducible assumption) | assumption) | (have e_ := (Kd.S_reads' HO_6.out).1; omega))
                           obtain ⟨ve159_0, rfl, ge159_0⟩ := hMe159
                           have hv159_0 := hcc159 0 _ rfl
                           rw [Nat.add_zero, show ((Kd.slice 3 (Kd.int .i64))).sz = 1 from rfl, Nat.mul_one] at hv159_0
                           replace hv159_0 := Option.some.inj (hv159_0.symm.trans hx159_0)
                           rw [hv159_0] at ge159_0
                           have HL159_0 := aM (show Kd.R (Kd.int .i64) 3 _ _ _ _ (rd_L2 x6_6 (rd ((rd_T28 l1 x10_3).f0) x13_5)) from ge159_0)
                           clear hv159_0 ge159_0
                           have HX159_0 := aM hx159_0
                           clear hcc159 hce159
                           have HR159_0 := aM hi159_0
                           have HC159_0 := aM hl159_0
                           clear hi159_0 hl159_0
                           replace p159 := eq_true p159
                           replace q159 := eq_true q159
                           have p160 : 0 ≤ (x14_6 : Int) := oD (by first | (with_reducible assumption) | assumption)
                           have q160 : x14_6 < ((rd_L2 x6_6 (rd ((rd_T28 l1 x10_3).f0) x13_5)).length : Int) := oD (by first | (with_reducible assumption) | assumption)
                           obtain ⟨ad160, e160, hx160_0⟩ := Kd.at_int (by repeat (first | (with_reducible exact HR159_0.out) | (with_reducible first | refine Kd.C_alloc ?_ _ | refine Kd.C_drewN ?_ _ | refine Kd.C_drew ?_) | exact HR159_0.out)) x14_6 p160 q160
                           cases e160
                           replace p160 := eq_true p160
                           replace q160 := eq_true q160
                           try go_wp2
                           have n0_ := aM (Kd.S_drew HO_6.out)
                           have n1_ := aM (Kd.R_drew HL159_0.out)
                           have n2_ := aM (kD BK138.out)
                           have n3_ := aM (kD BK153.out)
                           have n4_ := aM (Kd.C_drew HR159_0.out)
                           have n5_ := aM (b1 HB.out)
                           clear HO_6
                           clear HL159_0
                           clear BK138
                           clear BK153
                           clear HR159_0
                           clear HB
                           have HO_6 := n0_
                           have HL159_0 := n1_
                           have BK138 := n2_
                           have BK153 := n3_
                           have HR159_0 := n4_
                           have HB := n5_
                           clear n0_ n1_ n2_ n3_ n4_ n5_
                           have p161 : 0 ≤ (x13_5 : Int) := oD (by first | (with_reducible assumption) | assumption)
                           have q161 : x13_5 < (((rd_T28 l1 x10_3).f0).length : Int) := oD (by first | (with_reducible assumption) | assumption)
                           obtain ⟨ad161, e161, hx161_0⟩ := Kd.at_int HR152_0.out x13_5 p161 q161
                           have hw161_0 := hx161_0
                           obtain rfl : ad158 = ad161 := (by injection e161)
                           replace hx161_0 := (HB.out.cell (wL w _ hx161_0)).trans hx161_0
                           replace p161 := eq_true p161
                           replace q161 := eq_true q161
                           have p162 : 0 ≤ ((rd ((rd_T28 l1 x10_3).f0) x13_5) : Int) := oD (by first | (with_reducible assumption) | assumption)
                           have q162 : (rd ((rd_T28 l1 x10_3).f0) x13_5) < (x6_6.length : Int) := oD (by first | (with_reducible assumption) | assumption)
                           obtain ⟨ad162, A162_0, c162_0, e162, hx162_0, hl162_0, hi162_0⟩ := at_L2 (Kd.S_reads' HO_6.out).2.2 (rd ((rd_T28 l1 x10_3).f0) x13_5) p162 q162
                           obtain rfl : ad159 = ad162 := (by injection e162)
                           obtain ⟨ce162, hce162, hMe162, hcc162⟩ := Kd.S_get HO_6.out [] (rd ((rd_T28 l1 x10_3).f0) x13_5) p162 (by first | exact q162 | exact oD (by first | (with_reducible assumption) | assumption) | (have e_ := (Kd.S_reads' HO_6.out).1; omega))
                           obtain ⟨ve162_0, rfl, ge162_0⟩ := hMe162
                           have hv162_0 := hcc162 0 _ rfl
                           rw [Nat.add_zero, show ((Kd.slice 3 (Kd.int .i64))).sz = 1 from rfl, Nat.mul_one] at hv162_0
                           replace hv162_0 := Option.some.inj (hv162_0.symm.trans hx162_0)
                           rw [hv162_0] at ge162_0
                           have HL162_0 := aM (show Kd.R (Kd.int .i64) 3 _ _ _ _ (rd_L2 x6_6 (rd ((rd_T28 l1 x10_3).f0) x13_5)) from ge162_0)
                           clear hv162_0 ge162_0
                           have HX162_0 := aM hx162_0
                           clear hcc162 hce162
                           have HR162_0 := aM hi162_0
                           have HC162_0 := aM hl162_0
                           clear hi162_0 hl162_0
                           replace p162 := eq_true p162
                           replace q162 := eq_true q162
                           have p48 : 0 ≤ (x14_6 : Int) := oD (by first | (with_reducible assumption) | assumption)
                           have q48 : (x14_6 : Int) < (((rd_L2 x6_6 (rd ((rd_T28 l1 x10_3).f0) x13_5)).length : Int) : Int) := oD (by first | (with_reducible assumption) | assumption)
                           obtain ⟨go48, co48, eo48, gb48, gl48, cl48, HG48⟩ := Kd.R_form HL162_0.out (by omega)
                           (first | cases eo48 | (injection eo48 with ea_ en_ ec_; (first | subst ea_ | (injection ea_ with ea_; subst ea_)); subst ec_; clear en_))
                           have GB48 := aM gb48
                           have GG48 := aM HG48
                           clear gb48 gl48 HG48
                           obtain ⟨hx48_0, hf48_0⟩ := Kd.R_celln 0 HL162_0.out (x14_6 : Int) p48 q48
                           replace p48 := eq_true p48
                           replace q48 := eq_true q48
                           have hq53 : ((rd ((rd_T28 l1 x10_3).f0) x13_5) : Int) < (x6_6.length : Int) := (by have h_ : ((rd ((rd_T28 l1 x10_3).f0) x13_5) : Int) < ((x6_6.length : Int) : Int) := oD (by first | (with_reducible assumption) | assumption); first | exact h_ | (have e_ := (Kd.S_reads' HO_6.out).1; omega) | simpa only [List.length_set, List.length_set] using h_)
                           obtain ⟨oki53, ce53, hcl53, hM53, hcc53, hok53, hbk53⟩ := Kd.S_borrow HO_6.out [] ((rd ((rd_T28 l1 x10_3).f0) x13_5) : Int) (oD (by first | (with_reducible assumption) | assumption)) hq53
                           obtain ⟨ve53_0, rfl, ge53_0⟩ := hM53
                           have hv53 := hcc53 0 _ rfl
                           rw [Nat.add_zero, show ((Kd.slice 3 (Kd.int .i64))).sz = 1 from rfl, Nat.mul_one] at hv53
                           replace hv53 := Option.some.inj (hv53.symm.trans HX162_0.out)
                           subst hv53
                           clear hcc53 hcl53
                           replace ge53_0 := (show Kd.R (Kd.int .i64) 3 _ _ _ _ (rd_L2 x6_6 (rd ((rd_T28 l1 x10_3).f0) x13_5)) from ge53_0)
                           have HP53 := Kd.R_putg ge53_0 (x14_6 : Int) ((rd_T28 l1 x10_3).f4)
                           rw [← Ny163.out] at HP53
                           have HS53 := hbk53 HP53.2 (fun k_ e_ => by injection e_ with e_; subst e_; exact ge53_0.1 _ rfl) (x' := y163) (Kd.M_row HP53.1)
                           rw [← Ny165.out] at HS53
                           have HQ53 := aM HS53
                           clear HP53 HS53 hbk53 hok53
                           refine start_ (n := 13) (S := fun w' => w'.cell? ⟨gb153, 0, none⟩ = some (.slice (some ad158) ((rd_T28 l1 x10_3).f0).length c152_0) ∧ w'.cell? ⟨gb153, 1, none⟩ = some (.int .i64 ((rd_T28 l1 x10_3).f1)) ∧ w'.cell? ⟨gb153, 2, none⟩ = some (.int .i64 ((rd_T28 l1 x10_3).f2)) ∧ w'.cell? ⟨gb153, 3, none⟩ = some (.int .i64 ((rd_T28 l1 x10_3).f3)) ∧ w'.cell? ⟨gb153, 4, none⟩ = some (.int .i64 ((rd_T28 l1 x10_3).f4)) ∧ w'.cell? (ad158.add (x13_5).toNat) = some (.int .i64 (rd ((rd_T28 l1 x10_3).f0) x13_5)) ∧ w'.cell? (ad159.add ((rd ((rd_T28 l1 x10_3).f0) x13_5)).toNat) = some (.slice (some ⟨go48, 0, none⟩) (rd_L2 x6_6 (rd ((rd_T28 l1 x10_3).f0) x13_5)).length c162_0)) (ds := [12]) #[false, false, false, false, false, false, false, false, false, false, false, false, false] (by kernel_rfl) rfl rfl ⟨(kC BK153.out 0).trans rfl, (kC BK153.out 1).trans rfl, (kC BK153.out 2).trans rfl, (kC BK153.out 3).trans rfl, (kC BK153.out 4).trans rfl, ((HB.out.cell (wL w _ hw161_0)).trans hw161_0), hx162_0⟩ (fun hHeld => ?_); refine with_tabW spec_l12Left.tab30 spec_l12Left.bits30 (fun HT_ HW_ => ?_)
                           generalize wr.drew = w52 at HO_6 HL159_0 BK138 BK153 HR159_0 HB GG48 HL162_0 HQ53 HR162_0 HX162_0 hf48_0 hx161_0 hx162_0 hx48_0 hHeld ⊢
                           refine pure_ (i := 0) (N := some 92) (v := ?_) (a' := ?_) #[true, false, false, false, false, false, false, false, false, false, false, false, false] rfl rfl (any_of HT_.out (by kernel_rfl)) (fun _ _ _ h => h) (Or.inl ⟨by rfl, ?_⟩) ?_ ?_
                           rotate_left
                           ·intro w'
                            go_simp
                            with_reducible rfl
                           rotate_left
                           ·simp only [Act.put, List.setIfInBounds_toArray, List.set_cons_zero, List.set_cons_succ, i64_w, i32_w]
                            rfl
                           refine pure_ (i := 1) (N := some 93) (v := ?_) (a' := ?_) #[true, true, false, false, false, false, false, false, false, false, false, false, false] rfl rfl (any_of HT_.out (by kernel_rfl)) (fun _ _ _ h => h) (Or.inl ⟨by rfl, ?_⟩) ?_ ?_
                           rotate_left
                           ·intro w'
                            go_simp
                            with_reducible rfl
                           rotate_left
                           ·simp only [Act.put, List.setIfInBounds_toArray, List.set_cons_zero, List.set_cons_succ, i64_w, i32_w]
                            rfl
                           refine pure_ (i := 3) (N := some 95) (v := ?_) (a' := ?_) #[true, true, false, true, false, false, false, false, false, false, false, false, false] rfl rfl (any_of HT_.out (by kernel_rfl)) (fun _ _ _ h => h) (Or.inl ⟨by rfl, ?_⟩) ?_ ?_
                           rotate_left
                           ·intro w'
                            go_simp
                            with_reducible rfl
                           rotate_left
                           ·simp only [Act.put, List.setIfInBounds_toArray, List.set_cons_zero, List.set_cons_succ, i64_w, i32_w]
                            rfl
                           refine pure_ (i := 8) (N := some 100) (v := ?_) (a' := ?_) #[true, true, false, true, false, false, false, false, true, false, false, false, false] rfl rfl (any_of HT_.out (by kernel_rfl)) (fun _ _ _ h => h) (Or.inl ⟨by rfl, ?_⟩) ?_ ?_
                           rotate_left
                           ·intro w'
                            go_simp
                            with_reducible rfl
                           rotate_left
                           ·simp only [Act.put, List.setIfInBounds_toArray, List.set_cons_zero, List.set_cons_succ, i64_w, i32_w]
                            rfl
                           refine pure_ (i := 9) (N := some 101) (v := ?_) (a' := ?_) #[true, true, false, true, false, false, false, false, true, true, false, false, false] rfl rfl (any_of HT_.out (by kernel_rfl)) (fun _ _ _ h => h) (Or.inl ⟨by rfl, ?_⟩) ?_ ?_
                           rotate_left
                           ·intro w'
                            go_simp
                            with_reducible rfl
                           rotate_left
                           ·simp only [Act.put, List.setIfInBounds_toArray, List.set_cons_zero, List.set_cons_succ, i64_w, i32_w]
                            rfl
                           refine take_ (i := 2) (N := some 94) (v := ?_) (a' := ?_) #[true, true, true, true, false, false, false, false, true, true, false, false, false] rfl rfl (take_ofW HT_.out HW_.out (by kernel_rfl)) (fun _ _ _ h => h) (Or.inl ⟨by rfl, ?_⟩) hHeld ?_ ?_
                           rotate_left
                           ·rintro w' ⟨s0, s1, s2, s3, s4, s5, s6⟩
                            go_simp
                            with_reducible rfl
                           rotate_left
                           ·simp only [Act.put, List.setIfInBounds_toArray, List.set_cons_zero, List.set_cons_succ, i64_w, i32_w]
                            rfl
                           refine pure_ (i := 4) (N := some 96) (v := ?_) (a' := ?_) #[true, true, true, true, true, false, false, false, true, true, false, false, false] rfl rfl (any_of HT_.out (by kernel_rfl)) (fun _ _ _ h => h) (Or.inl ⟨by rfl, ?_⟩) ?_ ?_
                           rotate_left
                           ·intro w'
                            go_simp
                            with_reducible rfl
                           rotate_left
                           ·simp only [Act.put, List.setIfInBounds_toArray, List.set_cons_zero, List.set_cons_succ, i64_w, i32_w]
                            rfl
                           refine take_ (i := 5) (N := some 97) (v := ?_) (a' := ?_) #[true, true, true, true, true, true, false, false, true, true, false, false, false] rfl rfl (take_ofW HT_.out HW_.out (by kernel_rfl)) (fun _ _ _ h => h) (Or.inl ⟨by rfl, ?_⟩) hHeld ?_ ?_
                           rotate_left
                           ·rintro w' ⟨s0, s1, s2, s3, s4, s5, s6⟩
                            go_simp
                            with_reducible rfl
                           rotate_left
                           ·simp only [Act.put, List.setIfInBounds_toArray, List.set_cons_zero, List.set_cons_succ, i64_w, i32_w]
                            rfl
                           refine pure_ (i := 6) (N := some 98) (v := ?_) (a' := ?_) #[true, true, true, true, true, true, true, false, true, true, false, false, false] rfl rfl (any_of HT_.out (by kernel_rfl)) (fun _ _ _ h => h) (Or.inl ⟨by rfl, ?_⟩) ?_ ?_
                           rotate_left
                           ·intro w'
                            go_simp
                            with_reducible rfl
                           rotate_left
                           ·simp only [Act.put, List.setIfInBounds_toArray, List.set_cons_zero, List.set_cons_succ, i64_w, i32_w]
                            rfl
                           refine take_ (i := 7) (N := some 99) (v := ?_) (a' := ?_) #[true, true, true, true, true, true, true, true, true, true, false, false, false] rfl rfl (take_ofW HT_.out HW_.out (by kernel_rfl)) (fun _ _ _ h => h) (Or.inl ⟨by rfl, ?_⟩) hHeld ?_ ?_
                           rotate_left
                           ·rintro w' ⟨s0, s1, s2, s3, s4, s5, s6⟩
                            go_simp
                            with_reducible rfl
                           rotate_left
                           ·simp only [Act.put, List.setIfInBounds_toArray, List.set_cons_zero, List.set_cons_succ, i64_w, i32_w]
                            rfl
                           refine take_ (i := 10) (N := some 102) (v := ?_) (a' := ?_) #[true, true, true, true, true, true, true, true, true, true, true, false, false] rfl rfl (take_ofW HT_.out HW_.out (by kernel_rfl)) (fun _ _ _ h => h) (Or.inl ⟨by rfl, ?_⟩) hHeld ?_ ?_
                           rotate_left
                           ·rintro w' ⟨s0, s1, s2, s3, s4, s5, s6⟩
                            go_simp
                            with_reducible rfl
                           rotate_left
                           ·simp only [Act.put, List.setIfInBounds_toArray, List.set_cons_zero, List.set_cons_succ, i64_w, i32_w]
                            rfl
                           refine pure_ (i := 11) (N := some 103) (v := ?_) (a' := ?_) #[true, true, true, true, true, true, true, true, true, true, true, true, false] rfl rfl (any_of HT_.out (by kernel_rfl)) (fun _ _ _ h => h) (Or.inl ⟨by rfl, ?_⟩) ?_ ?_
                           rotate_left
                           ·intro w'
                            go_simp
                            with_reducible rfl
                           rotate_left
                           ·simp only [Act.put, List.setIfInBounds_toArray, List.set_cons_zero, List.set_cons_succ, i64_w, i32_w]
                            rfl
                           refine last_ (i := 12) (N := none) #[true, true, true, true, true, true, true, true, true, true, true, true, true] rfl rfl (one_of HT_.out (by kernel_rfl)) (by decide) (fun K hK => ?_)
                           refine skip_ (w1 := ?_) (by rfl) rfl ?_ ?_
                           rotate_left
                           ·go_simp
                            rfl
                           refine hK.out _ _ ?_
                           clear hK K
                           refine done_ (done_of HT_.out (by kernel_rfl)) ?_
                           try go_wp2
                           go_roundg k6
                           case measure => have := HJ2.out; have := HK2.out; have := HK3.out; have := HJ28.out; have := HK5.out; have := HK6.out; omega
                           case rel => exact ⟨(y165), (wrap64 (x14_6 + 1)), (by first | rfl | (simp; done) | (simp [*]; done)), H', ⟨by have := HJ2.out; have := HK2.out; have := HK3.out; have := HJ28.out; have := HK5.out; have := HK6.out; omega⟩, ⟨by (with_reducible repeat (first | apply Kd.S_alloc | apply Kd.S_drewN | apply Kd.S_drew)); exact HQ53.out⟩, ⟨by (with_reducible repeat (first | apply kN | apply kD | apply kA)); refine blk_far ?_ (by have h_ := Kd.R_ne HL162_0.out BK138.out (by decide); intro e_; exact h_ (by rw [e_]; rfl)) _; (with_reducible repeat (first | apply kN | apply kD | apply kA)); exact BK138.out⟩, ⟨by (with_reducible repeat (first | apply kN | apply kD | apply kA)); refine blk_far ?_ (by have h_ := Kd.R_ne HL162_0.out BK153.out (by decide); intro e_; exact h_ (by rw [e_]; rfl)) _; (with_reducible repeat (first | apply kN | apply kD | apply kA)); exact BK153.out⟩, ⟨by repeat (first | (with_reducible first | exact HB.out | apply bA | apply bN | apply b1 | refine bS ?_ GB48.out | refine bS ?_ GE138.out | refine bS ?_ GE153.out) | exact HB.out)⟩⟩
                          ·rw [if_neg c47] at H
                           have c47b0 : ((rd (rd_L2 x6_6 (rd ((rd_T28 l1 x10_3).f0) x13_5)) x14_6) == x12_28) = false := beq_eq_false_iff_ne.mpr c47
                           have c47b1 : ((rd (rd_L2 x6_6 (rd ((rd_T28 l1 x10_3).f0) x13_5)) x14_6) != x12_28) = true := bne_iff_ne.mpr c47
                           obtain ⟨y166, hy166⟩ : ∃ y_ : List (List Int), y_ = (([] : List (List Int))) := ⟨_, rfl⟩
                           replace H : (some (y166, false)) = some (r1, r2) := by first | (rw [hy166]; with_reducible exact H) | (have H2_ := (Option.bind_some _ _).symm.trans H; rw [hy166]; with_reducible exact H2_) | (have H2_ := (Option.bind_some _ _).symm.trans H; with_reducible exact H2_) | with_reducible exact H | (rw [hy166]; exact H) | exact H
                           have Ny166 := aM hy166
                           clear hy166
                           simp only [Option.some.injEq, Prod.mk.injEq] at H
                           obtain ⟨rfl, rfl⟩ := H
                           have hnb55 := NB153_138.out
                           have hnc55 := NB138_153.out
                           have hcz56_0 : wr.cell? ⟨gb153, 0, none⟩ = some (.slice A152_0 ((rd_T28 l1 x10_3).f0).length c152_0) := (kC BK153.out 0).trans rfl
                           have hcz56_1 : wr.cell? ⟨gb153, 1, none⟩ = some (.int .i64 ((rd_T28 l1 x10_3).f1)) := (kC BK153.out 1).trans rfl
                           have hcz56_2 : wr.cell? ⟨gb153, 2, none⟩ = some (.int .i64 ((rd_T28 l1 x10_3).f2)) := (kC BK153.out 2).trans rfl
                           have hcz56_3 : wr.cell? ⟨gb153, 3, none⟩ = some (.int .i64 ((rd_T28 l1 x10_3).f3)) := (kC BK153.out 3).trans rfl
                           have hcz56_4 : wr.cell? ⟨gb153, 4, none⟩ = some (.int .i64 ((rd_T28 l1 x10_3).f4)) := (kC BK153.out 4).trans rfl
                           have p158 : 0 ≤ (x13_5 : Int) := oD (by first | (with_reducible assumption) | assumption)
                           have q158 : x13_5 < (((rd_T28 l1 x10_3).f0).length : Int) := oD (by first | (with_reducible assumption) | assumption)
                           obtain ⟨ad158, e158, hx158_0⟩ := Kd.at_int HR152_0.out x13_5 p158 q158
                           cases e158
                           replace hx158_0 := (HB.out.cell (wL w _ hx158_0)).trans hx158_0
                           replace p158 := eq_true p158
                           replace q158 := eq_true q158
                           obtain ⟨Ao57, co57, eo57⟩ := Kd.S_slice HO_6.out
                           subst eo57
                           have p159 : 0 ≤ ((rd ((rd_T28 l1 x10_3).f0) x13_5) : Int) := oD (by first | (with_reducible assumption) | assumption)
                           have q159 : (rd ((rd_T28 l1 x10_3).f0) x13_5) < (x6_6.length : Int) := oD (by first | (with_reducible assumption) | assumption)
                           obtain ⟨ad159, A159_0, c159_0, e159, hx159_0, hl159_0, hi159_0⟩ := at_L2 (Kd.S_reads' HO_6.out).2.2 (rd ((rd_T28 l1 x10_3).f0) x13_5) p159 q159
                           cases e159
                           obtain ⟨ce159, hce159, hMe159, hcc159⟩ := Kd.S_get HO_6.out [] (rd ((rd_T28 l1 x10_3).f0) x13_5) p159 (by first | exact q159 | exact oD (by first | (with_reducible assumption) | assumption) | (have e_ := (Kd.S_reads' HO_6.out).1; omega))
                           obtain ⟨ve159_0, rfl, ge159_0⟩ := hMe159
                           have hv159_0 := hcc159 0 _ rfl
                           rw [Nat.add_zero, show ((Kd.slice 3 (Kd.int .i64))).sz = 1 from rfl, Nat.mul_one] at hv159_0
                           replace hv159_0 := Option.some.inj (hv159_0.symm.trans hx159_0)
                           rw [hv159_0] at ge159_0
                           have HL159_0 := aM (show Kd.R (Kd.int .i64) 3 _ _ _ _ (rd_L2 x6_6 (rd ((rd_T28 l1 x10_3).f0) x13_5)) from ge159_0)
                           clear hv159_0 ge159_0
                           have HX159_0 := aM hx159_0
                           clear hcc159 hce159
                           have HR159_0 := aM hi159_0
                           have HC159_0 := aM hl159_0
                           clear hi159_0 hl159_0
                           replace p159 := eq_true p159
                           replace q159 := eq_true q159
                           have p160 : 0 ≤ (x14_6 : Int) := oD (by first | (with_reducible assumption) | assumption)
                           have q160 : x14_6 < ((rd_L2 x6_6 (rd ((rd_T28 l1 x10_3).f0) x13_5)).length : Int) := oD (by first | (with_reducible assumption) | assumption)
                           obtain ⟨ad160, e160, hx160_0⟩ := Kd.at_int (by repeat (first | (with_reducible exact HR159_0.out) | (with_reducible first | refine Kd.C_alloc ?_ _ | refine Kd.C_drewN ?_ _ | refine Kd.C_drew ?_) | exact HR159_0.out)) x14_6 p160 q160
                           cases e160
                           replace p160 := eq_true p160
                           replace q160 := eq_true q160
                           go_wp2_with (first | ((with_reducible refine gate_dst (N := 91) rfl ?_); (try (refine gate_guard (by rfl) ?_; dsimp only)); refine Kd.S_lit (Kd.slice 3 (Kd.int .i64)) _ 22 ?hg (N := 91) ?hd (xs := ([] : List (List Int))) (inner := []) (ok := fun _ => True) (okp := fun _ => True) ?hr ?hp (fun _ hk => hk) trivial (Below.refl _ _) (Nat.le_refl _) (by simp) ?_; (case hd => rfl); (case hg => rfl); (case hr => first | (go_simp; done) | (go_simp; rfl)); (case hp => exact (Reps.none _ _)); intro v167 w58 ho59 hb hg_ hnew_; clear hg_ hnew_; (first | rw [← Ny166.out] at ho59 | (simp only [Int.reduceToNat] at ho59; rw [← Ny166.out] at ho59)); have n0_ := aM (Kd.S_elder' (by (with_reducible repeat (first | apply Kd.S_alloc | apply Kd.S_drewN | apply Kd.S_drew)); exact HO_6.out) (Kd.S_base ho59) hb); have n1_ := aM (Kd.R_below (by (with_reducible repeat (first | apply Kd.R_alloc | apply Kd.R_drewN | apply Kd.R_drew)); exact HL159_0.out) hb); have n2_ := aM (Kd.S_lower (Kd.S_new' (Kd.S_new' ho59 (Kd.S_lt (by (with_reducible repeat (first | apply Kd.S_alloc | apply Kd.S_drewN | apply Kd.S_drew)); exact HO_6.out))) (Kd.R_lt (by (with_reducible repeat (first | apply Kd.R_alloc | apply Kd.R_drewN | apply Kd.R_drew)); exact HL159_0.out))) (below_size (by repeat (first | (with_reducible first | exact HB.out | apply bA | apply bN | apply b1 | refine bS ?_ GE138.out | refine bS ?_ GE153.out) | exact HB.out)))); have n3_ := aM (blk_below (g := gb138) (o := .cells #[.int .i64 a0_0, .int .i64 a0_1, .int .i64 a0_2, .int .i64 a0_3, .slice A0_4 l0_4.length c0_4] 45 (0, 0)) (by (with_reducible repeat (first | apply kN | apply kD | apply kA)); exact BK138.out) hb); have n4_ := aM (blk_below (g := gb153) (o := .cells #[.slice (some ad158) ((rd_T28 l1 x10_3).f0).length c152_0, .int .i64 ((rd_T28 l1 x10_3).f1), .int .i64 ((rd_T28 l1 x10_3).f2), .int .i64 ((rd_T28 l1 x10_3).f3), .int .i64 ((rd_T28 l1 x10_3).f4)] 28 (0, 0)) (by (with_reducible repeat (first | apply kN | apply kD | apply kA)); exact BK153.out) hb); have n5_ := aM (Kd.C_below (by repeat (first | (with_reducible exact HR159_0.out) | (with_reducible first | refine Kd.C_alloc ?_ _ | refine Kd.C_drewN ?_ _ | refine Kd.C_drew ?_) | exact HR159_0.out)) hb); have n6_ := aM (pw_cell_below hb HX159_0.out); have n7_ := aM (below_step (by repeat (first | (with_reducible first | exact HB.out | apply bA | apply bN | apply b1 | refine bS ?_ GE138.out | refine bS ?_ GE153.out) | exact HB.out)) hb); clear HO_6; clear HL159_0; clear BK138; clear BK153; clear HR159_0; clear HX159_0; clear HB; have HO_6 := n0_; have HL159_0 := n1_; have HO168 := n2_; have BK138 := n3_; have BK153 := n4_; have HR159_0 := n5_; have HX159_0 := n6_; have HB := n7_; clear n0_ n1_ n2_ n3_ n4_ n5_ n6_ n7_; clear hb ho59))
                           go_ret2
                           exact ⟨_, by first | rfl | (simp [*, errW_none, errW_some] <;> rfl), by (with_reducible repeat (first | apply Kd.S_alloc | apply Kd.S_drewN | apply Kd.S_drew)); exact Kd.S_mono HO168.out (fun _ hk => trivial), by repeat (first | (with_reducible first | exact HB.out | apply bA | apply bN | apply b1 | refine bS ?_ GE138.out | refine bS ?_ GE153.out) | exact HB.out)⟩
                         ·rw [if_neg c46] at H
                          exact absurd H (by simp)
                        ·rw [if_neg c45] at H
                         exact absurd H (by simp)
                       ·rw [if_neg c44] at H
                        exact absurd H (by simp)
                      ·rw [if_neg c43] at H
                       exact absurd H (by simp)
                     ·rw [if_neg c42] at H
                      exact absurd H (by simp)
                    ·rw [if_neg c41] at H
                     exact absurd H (by simp)
                   ·rw [if_neg c40] at H
                    have c40b0 : decide (x14_6 ≤ ((rd_T28 l1 x10_3).f2)) = false := decide_eq_false c40
                    clear c40
                    have H' := aM H
                    clear H
                    have hnb60 := NB153_138.out
                    have hnc60 := NB138_153.out
                    have hcz61_0 : wr.cell? ⟨gb153, 0, none⟩ = some (.slice A152_0 ((rd_T28 l1 x10_3).f0).length c152_0) := (kC BK153.out 0).trans rfl
                    have hcz61_1 : wr.cell? ⟨gb153, 1, none⟩ = some (.int .i64 ((rd_T28 l1 x10_3).f1)) := (kC BK153.out 1).trans rfl
                    have hcz61_2 : wr.cell? ⟨gb153, 2, none⟩ = some (.int .i64 ((rd_T28 l1 x10_3).f2)) := (kC BK153.out 2).trans rfl
                    have hcz61_3 : wr.cell? ⟨gb153, 3, none⟩ = some (.int .i64 ((rd_T28 l1 x10_3).f3)) := (kC BK153.out 3).trans rfl
                    have hcz61_4 : wr.cell? ⟨gb153, 4, none⟩ = some (.int .i64 ((rd_T28 l1 x10_3).f4)) := (kC BK153.out 4).trans rfl
                    go_wp2
                    go_roundg k6
                    case measure => have := HJ2.out; have := HK2.out; have := HK3.out; have := HJ28.out; have := HK5.out; have := HK6.out; omega
                    case rel => exact ⟨(x6_6), (wrap64 (x13_5 + 1)), (by first | rfl | (simp; done) | (simp [*]; done)), H', ⟨by have := HJ2.out; have := HK2.out; have := HK3.out; have := HJ28.out; have := HK5.out; have := HK6.out; omega⟩, ⟨by (with_reducible repeat (first | apply Kd.S_alloc | apply Kd.S_drewN | apply Kd.S_drew)); exact HO_6.out⟩, ⟨by (with_reducible repeat (first | apply kN | apply kD | apply kA)); exact BK138.out⟩, ⟨by (with_reducible repeat (first | apply kN | apply kD | apply kA)); exact BK153.out⟩, ⟨by repeat (first | (with_reducible first | exact HB.out | apply bA | apply bN | apply b1 | refine bS ?_ GE138.out | refine bS ?_ GE153.out) | exact HB.out)⟩⟩
                ·rw [if_neg c37] at H
                 have c37b0 : decide (x13_5 < (((rd_T28 l1 x10_3).f0).length : Int)) = false := decide_eq_false c37
                 clear c37
                 have H' := aM H
                 clear H
                 have hnb62 := NB153_138.out
                 have hnc62 := NB138_153.out
                 have hcz63_0 : wr.cell? ⟨gb153, 0, none⟩ = some (.slice A152_0 ((rd_T28 l1 x10_3).f0).length c152_0) := (kC BK153.out 0).trans rfl
                 have hcz63_1 : wr.cell? ⟨gb153, 1, none⟩ = some (.int .i64 ((rd_T28 l1 x10_3).f1)) := (kC BK153.out 1).trans rfl
                 have hcz63_2 : wr.cell? ⟨gb153, 2, none⟩ = some (.int .i64 ((rd_T28 l1 x10_3).f2)) := (kC BK153.out 2).trans rfl
                 have hcz63_3 : wr.cell? ⟨gb153, 3, none⟩ = some (.int .i64 ((rd_T28 l1 x10_3).f3)) := (kC BK153.out 3).trans rfl
                 have hcz63_4 : wr.cell? ⟨gb153, 4, none⟩ = some (.int .i64 ((rd_T28 l1 x10_3).f4)) := (kC BK153.out 4).trans rfl
                 go_wp2
                 go_roundg k5
                 case measure => have := HJ2.out; have := HK2.out; have := HK3.out; have := HJ28.out; have := HK5.out; omega
                 case rel => exact ⟨(x6_5), (wrap64 (x10_3 + 1)), (by first | rfl | (simp; done) | (simp [*]; done)), H', ⟨by have := HJ2.out; have := HK2.out; have := HK3.out; have := HJ28.out; have := HK5.out; omega⟩, ⟨by (with_reducible repeat (first | apply Kd.S_alloc | apply Kd.S_drewN | apply Kd.S_drew)); exact HO_6.out⟩, ⟨by (with_reducible repeat (first | apply kN | apply kD | apply kA)); exact BK138.out⟩, ⟨by repeat (first | (with_reducible first | exact HB.out | apply bA | apply bN | apply b1 | refine bS ?_ GE138.out | refine bS ?_ GE153.out) | exact HB.out)⟩⟩
           ·replace c28 := Bool.eq_false_iff.mpr c28
            subst c28
            have H1 : (some ((([] : List (List Int))), false)) = some (r1, r2) := by rw [if_neg (show ¬ (false = true) by decide)] at H; exact H
            clear H
            have H := H1
            clear H1
            obtain ⟨y155, hy155⟩ : ∃ y_ : List (List Int), y_ = (([] : List (List Int))) := ⟨_, rfl⟩
            replace H : (some (y155, false)) = some (r1, r2) := by first | (rw [hy155]; with_reducible exact H) | (have H2_ := (Option.bind_some _ _).symm.trans H; rw [hy155]; with_reducible exact H2_) | (have H2_ := (Option.bind_some _ _).symm.trans H; with_reducible exact H2_) | with_reducible exact H | (rw [hy155]; exact H) | exact H
            have Ny155 := aM hy155
            clear hy155
            simp only [Option.some.injEq, Prod.mk.injEq] at H
            obtain ⟨rfl, rfl⟩ := H
            have p152 : 0 ≤ (x10_3 : Int) := oD (by first | (with_reducible assumption) | assumption)
            have q152 : x10_3 < (l1.length : Int) := oD (by first | (with_reducible assumption) | assumption)
            obtain ⟨ad152, A152_0, c152_0, e152, hx152_0, hx152_1, hx152_2, hx152_3, hx152_4, hl152_0, hi152_0⟩ := at_T28 HR1.out x10_3 p152 q152
            cases e152
            replace hx152_0 := (HB.out.cell (wL w _ hx152_0)).trans hx152_0
            replace hx152_1 := (HB.out.cell (wL w _ hx152_1)).trans hx152_1
            replace hx152_2 := (HB.out.cell (wL w _ hx152_2)).trans hx152_2
            replace hx152_3 := (HB.out.cell (wL w _ hx152_3)).trans hx152_3
            replace hx152_4 := (HB.out.cell (wL w _ hx152_4)).trans hx152_4
            have HR152_0 := aM hi152_0
            have HC152_0 := aM hl152_0
            clear hi152_0 hl152_0
            replace p152 := eq_true p152
            replace q152 := eq_true q152
            go_wp2_with (first | ((with_reducible refine gate_dst (N := 11) rfl ?_); (try (refine gate_guard (by rfl) ?_; dsimp only)); refine box_event ?hg (N := 11) ?hd (cs := #[.slice none 0 0, .int .i64 0, .int .i64 0, .int .i64 0, .int .i64 0]) (t := 28) ?hr ?_; (case hd => rfl); (case hg => rfl); (case hr => first | (go_simp; done) | (go_simp; rfl)); intro gb153 hg w64 hbox hb; have n0_ := aM (Kd.S_below (by (with_reducible repeat (first | apply Kd.S_alloc | apply Kd.S_drewN | apply Kd.S_drew)); exact HO_6.out) hb); have n1_ := aM (blk_below (g := gb138) (o := .cells #[.int .i64 a0_0, .int .i64 a0_1, .int .i64 a0_2, .int .i64 a0_3, .slice A0_4 l0_4.length c0_4] 45 (0, 0)) (by (with_reducible repeat (first | apply kN | apply kD | apply kA)); exact BK138.out) hb); have n2_ := aM (below_step (by repeat (first | (with_reducible first | exact HB.out | apply bA | apply bN | apply b1 | refine bS ?_ GE138.out) | exact HB.out)) hb); have n3_ := aM (hbox); have n4_ := aM ((by rw [hg]; exact (below_size (by repeat (first | (with_reducible first | exact HB.out | apply bA | apply bN | apply b1 | refine bS ?_ GE138.out) | exact HB.out))) : w.heap.size ≤ gb153)); have n5_ := aM ((by rw [hg]; exact (below_size (by repeat (first | (with_reducible first | exact HB.out | apply bA | apply bN | apply b1 | refine bS ?_ GE138.out) | exact HB.out))) : w.heap.size ≤ gb153)); have n6_ := aM ((by rw [hg]; exact Nat.ne_of_lt (blk_lt (g := gb138) (o := .cells #[.int .i64 a0_0, .int .i64 a0_1, .int .i64 a0_2, .int .i64 a0_3, .slice A0_4 l0_4.length c0_4] 45 (0, 0)) (by (with_reducible repeat (first | apply kN | apply kD | apply kA)); exact BK138.out)) : gb138 ≠ gb153)); have n7_ := aM ((by rw [hg]; exact Nat.ne_of_gt (blk_lt (g := gb138) (o := .cells #[.int .i64 a0_0, .int .i64 a0_1, .int .i64 a0_2, .int .i64 a0_3, .slice A0_4 l0_4.length c0_4] 45 (0, 0)) (by (with_reducible repeat (first | apply kN | apply kD | apply kA)); exact BK138.out)) : gb153 ≠ gb138)); clear HO_6; clear BK138; clear HB; have HO_6 := n0_; have BK138 := n1_; have HB := n2_; have BK153 := n3_; have GW153 := n4_; have GE153 := n5_; have NB138_153 := n6_; have NB153_138 := n7_; clear n0_ n1_ n2_ n3_ n4_ n5_ n6_ n7_; clear hb hbox hg; have hnb65 := NB153_138.out; have hnc65 := NB138_153.out; have hcz66_0 : w64.cell? ⟨gb153, 0, none⟩ = some (.slice none 0 0) := (kC BK153.out 0).trans rfl; have hcz66_1 : w64.cell? ⟨gb153, 1, none⟩ = some (.int .i64 0) := (kC BK153.out 1).trans rfl; have hcz66_2 : w64.cell? ⟨gb153, 2, none⟩ = some (.int .i64 0) := (kC BK153.out 2).trans rfl; have hcz66_3 : w64.cell? ⟨gb153, 3, none⟩ = some (.int .i64 0) := (kC BK153.out 3).trans rfl; have hcz66_4 : w64.cell? ⟨gb153, 4, none⟩ = some (.int .i64 0) := (kC BK153.out 4).trans rfl; have hfz66_0 := blk_frozen BK153.out 0; have hfz66_1 := blk_frozen BK153.out 1; have hfz66_2 := blk_frozen BK153.out 2; have hfz66_3 := blk_frozen BK153.out 3; have hfz66_4 := blk_frozen BK153.out 4; have hcz67_0 : w64.cell? ⟨gb138, 0, none⟩ = some (.int .i64 a0_0) := (kC BK138.out 0).trans rfl; have hcz67_1 : w64.cell? ⟨gb138, 1, none⟩ = some (.int .i64 a0_1) := (kC BK138.out 1).trans rfl; have hcz67_2 : w64.cell? ⟨gb138, 2, none⟩ = some (.int .i64 a0_2) := (kC BK138.out 2).trans rfl; have hcz67_3 : w64.cell? ⟨gb138, 3, none⟩ = some (.int .i64 a0_3) := (kC BK138.out 3).trans rfl; have hcz67_4 : w64.cell? ⟨gb138, 4, none⟩ = some (.slice A0_4 l0_4.length c0_4) := (kC BK138.out 4).trans rfl; have hfz67_0 := blk_frozen BK138.out 0; have hfz67_1 := blk_frozen BK138.out 1; have hfz67_2 := blk_frozen BK138.out 2; have hfz67_3 := blk_frozen BK138.out 3; have hfz67_4 := blk_frozen BK138.out 4) | ((with_reducible refine gate_callee (f := 40) rfl ?_); refine goesL_ (some 56) rfl rfl Try.func40 (by kernel_rfl) rfl #[.agg #[.int .i64 a0_0, .int .i64 a0_1, .int .i64 a0_2, .int .i64 a0_3, .slice A0_4 l0_4.length c0_4], .agg #[.slice A152_0 ((rd_T28 l1 x10_3).f0).length c152_0, .int .i64 ((rd_T28 l1 x10_3).f1), .int .i64 ((rd_T28 l1 x10_3).f2), .int .i64 ((rd_T28 l1 x10_3).f3), .int .i64 ((rd_T28 l1 x10_3).f4)]] rfl (by (try simp only [List.map_toArray, List.map_cons, List.map_nil]); first | done | rfl | (simp only [List.length_drop, List.length_take]; rfl)) ?_; (with_reducible refine (spec_ScanOk.calls k3 a0_0 a0_1 a0_2 a0_3 _ _ l0_4 _ _ ((rd_T28 l1 x10_3).f0) ((rd_T28 l1 x10_3).f1) ((rd_T28 l1 x10_3).f2) ((rd_T28 l1 x10_3).f3) ((rd_T28 l1 x10_3).f4) false _ ?side1 ?side2 ?side3 ?side4 A27.out).mono ?_); (case side1 => exact Kd.C_below HR0_4.out (by repeat (first | (with_reducible first | exact HB.out | apply bA | apply bN | apply b1 | refine bS ?_ GE138.out | refine bS ?_ GE153.out) | exact HB.out))); (case side2 => exact HC0_4.out); (case side3 => exact Kd.C_below HR152_0.out (by repeat (first | (with_reducible first | exact HB.out | apply bA | apply bN | apply b1 | refine bS ?_ GE138.out | refine bS ?_ GE153.out) | exact HB.out))); (case side4 => exact HC152_0.out); rintro e w68 ⟨rfl, hb⟩; refine ⟨_, rfl, ?_⟩; have n0_ := aM (Kd.S_below (by (with_reducible repeat (first | apply Kd.S_alloc | apply Kd.S_drewN | apply Kd.S_drew)); exact (Kd.S_mono (Kd.S_far (p := ⟨gb153, 4, none⟩) (Kd.S_far (p := ⟨gb153, 3, none⟩) (Kd.S_far (p := ⟨gb153, 2, none⟩) (Kd.S_far (p := ⟨gb153, 1, none⟩) (Kd.S_far (p := ⟨gb153, 0, none⟩) (Kd.S_types HO_6.out BK153.out (by decide)) (fun _ hk => hk.2) (.slice A152_0 ((rd_T28 l1 x10_3).f0).length c152_0)) (fun _ hk => hk.2) (.int .i64 ((rd_T28 l1 x10_3).f1))) (fun _ hk => hk.2) (.int .i64 ((rd_T28 l1 x10_3).f2))) (fun _ hk => hk.2) (.int .i64 ((rd_T28 l1 x10_3).f3))) (fun _ hk => hk.2) (.int .i64 ((rd_T28 l1 x10_3).f4))) (fun _ h_ => h_.1))) hb); have n1_ := aM (blk_below (g := gb138) (o := .cells #[.int .i64 a0_0, .int .i64 a0_1, .int .i64 a0_2, .int .i64 a0_3, .slice A0_4 l0_4.length c0_4] 45 (0, 0)) (by (with_reducible repeat (first | apply kN | apply kD | apply kA)); refine blk_far ?_ NB138_153.out _; (with_reducible repeat (first | apply kN | apply kD | apply kA)); refine blk_far ?_ NB138_153.out _; (with_reducible repeat (first | apply kN | apply kD | apply kA)); refine blk_far ?_ NB138_153.out _; (with_reducible repeat (first | apply kN | apply kD | apply kA)); refine blk_far ?_ NB138_153.out _; (with_reducible repeat (first | apply kN | apply kD | apply kA)); refine blk_far ?_ NB138_153.out _; (with_reducible repeat (first | apply kN | apply kD | apply kA)); exact BK138.out) hb); have n2_ := aM (blk_below (g := gb153) (o := .cells #[.slice A152_0 ((rd_T28 l1 x10_3).f0).length c152_0, .int .i64 ((rd_T28 l1 x10_3).f1), .int .i64 ((rd_T28 l1 x10_3).f2), .int .i64 ((rd_T28 l1 x10_3).f3), .int .i64 ((rd_T28 l1 x10_3).f4)] 28 (0, 0)) (by (with_reducible repeat (first | apply kN | apply kD | apply kA)); refine blk_put (cs := #[.slice A152_0 ((rd_T28 l1 x10_3).f0).length c152_0, .int .i64 ((rd_T28 l1 x10_3).f1), .int .i64 ((rd_T28 l1 x10_3).f2), .int .i64 ((rd_T28 l1 x10_3).f3), .int .i64 0]) ?_ 4 _ rfl; (with_reducible repeat (first | apply kN | apply kD | apply kA)); refine blk_put (cs := #[.slice A152_0 ((rd_T28 l1 x10_3).f0).length c152_0, .int .i64 ((rd_T28 l1 x10_3).f1), .int .i64 ((rd_T28 l1 x10_3).f2), .int .i64 0, .int .i64 0]) ?_ 3 _ rfl; (with_reducible repeat (first | apply kN | apply kD | apply kA)); refine blk_put (cs := #[.slice A152_0 ((rd_T28 l1 x10_3).f0).length c152_0, .int .i64 ((rd_T28 l1 x10_3).f1), .int .i64 0, .int .i64 0, .int .i64 0]) ?_ 2 _ rfl; (with_reducible repeat (first | apply kN | apply kD | apply kA)); refine blk_put (cs := #[.slice A152_0 ((rd_T28 l1 x10_3).f0).length c152_0, .int .i64 0, .int .i64 0, .int .i64 0, .int .i64 0]) ?_ 1 _ rfl; (with_reducible repeat (first | apply kN | apply kD | apply kA)); refine blk_put (cs := #[.slice none 0 0, .int .i64 0, .int .i64 0, .int .i64 0, .int .i64 0]) ?_ 0 _ rfl; (with_reducible repeat (first | apply kN | apply kD | apply kA)); exact BK153.out) hb); have n3_ := aM (below_step (by repeat (first | (with_reducible first | exact HB.out | apply bA | apply bN | apply b1 | refine bS ?_ GE138.out | refine bS ?_ GE153.out) | exact HB.out)) hb); clear HO_6; clear BK138; clear BK153; clear HB; have HO_6 := n0_; have BK138 := n1_; have BK153 := n2_; have HB := n3_; clear n0_ n1_ n2_ n3_; (try clear hb); (try clear hb2); (try clear hk); (try clear hi)) | ((with_reducible refine gate_dst (N := 58) rfl ?_); (try (refine gate_guard (by rfl) ?_; dsimp only)); refine Kd.S_lit (Kd.slice 3 (Kd.int .i64)) _ 22 ?hg (N := 58) ?hd (xs := ([] : List (List Int))) (inner := []) (ok := fun _ => True) (okp := fun _ => True) ?hr ?hp (fun _ hk => hk) trivial (Below.refl _ _) (Nat.le_refl _) (by simp) ?_; (case hd => rfl); (case hg => rfl); (case hr => first | (go_simp; done) | (go_simp; rfl)); (case hp => exact (Reps.none _ _)); intro v156 w69 ho70 hb hg_ hnew_; clear hg_ hnew_; (first | rw [← Ny155.out] at ho70 | (simp only [Int.reduceToNat] at ho70; rw [← Ny155.out] at ho70)); have n0_ := aM (Kd.S_elder' (by (with_reducible repeat (first | apply Kd.S_alloc | apply Kd.S_drewN | apply Kd.S_drew)); exact HO_6.out) (Kd.S_base ho70) hb); have n1_ := aM (Kd.S_lower (Kd.S_new' ho70 (Kd.S_lt (by (with_reducible repeat (first | apply Kd.S_alloc | apply Kd.S_drewN | apply Kd.S_drew)); exact HO_6.out))) (below_size (by repeat (first | (with_reducible first | exact HB.out | apply bA | apply bN | apply b1 | refine bS ?_ GE138.out | refine bS ?_ GE153.out) | exact HB.out)))); have n2_ := aM (blk_below (g := gb138) (o := .cells #[.int .i64 a0_0, .int .i64 a0_1, .int .i64 a0_2, .int .i64 a0_3, .slice A0_4 l0_4.length c0_4] 45 (0, 0)) (by (with_reducible repeat (first | apply kN | apply kD | apply kA)); exact BK138.out) hb); have n3_ := aM (blk_below (g := gb153) (o := .cells #[.slice A152_0 ((rd_T28 l1 x10_3).f0).length c152_0, .int .i64 ((rd_T28 l1 x10_3).f1), .int .i64 ((rd_T28 l1 x10_3).f2), .int .i64 ((rd_T28 l1 x10_3).f3), .int .i64 ((rd_T28 l1 x10_3).f4)] 28 (0, 0)) (by (with_reducible repeat (first | apply kN | apply kD | apply kA)); exact BK153.out) hb); have n4_ := aM (below_step (by repeat (first | (with_reducible first | exact HB.out | apply bA | apply bN | apply b1 | refine bS ?_ GE138.out | refine bS ?_ GE153.out) | exact HB.out)) hb); clear HO_6; clear BK138; clear BK153; clear HB; have HO_6 := n0_; have HO157 := n1_; have BK138 := n2_; have BK153 := n3_; have HB := n4_; clear n0_ n1_ n2_ n3_ n4_; clear hb ho70))
            go_ret2
            exact ⟨_, by first | rfl | (simp [*, errW_none, errW_some] <;> rfl), by (with_reducible repeat (first | apply Kd.S_alloc | apply Kd.S_drewN | apply Kd.S_drew)); exact Kd.S_mono HO157.out (fun _ hk => trivial), by repeat (first | (with_reducible first | exact HB.out | apply bA | apply bN | apply b1 | refine bS ?_ GE138.out | refine bS ?_ GE153.out) | exact HB.out)⟩
          ·rw [if_neg c26] at H
           exact absurd H (by simp)
         ·rw [if_neg c25] at H
          have c25b0 : decide (x10_3 < (l1.length : Int)) = false := decide_eq_false c25
          clear c25
          simp only [Option.some.injEq, Prod.mk.injEq] at H
          obtain ⟨rfl, rfl⟩ := H
          go_wp2
          go_ret2
          exact ⟨_, by first | rfl | (simp [*, errW_none, errW_some] <;> rfl), by (with_reducible repeat (first | apply Kd.S_alloc | apply Kd.S_drewN | apply Kd.S_drew)); exact HO_6.out, by repeat (first | (with_reducible first | exact HB.out | apply bA | apply bN | apply b1 | refine bS ?_ GE138.out) | exact HB.out)⟩

end Go.Proofs.Ythajjjpblkhmmaa.CL

/- Functions that a law of this seat reaches: written by a program of this session (wip/xprint.py), and by hand. -/
import Derived.Test.YthajjjpblkhmmaaQMac
import Derived.Test.YthajjjpblkhmmaaQCPx0
import Derived.Test.YthajjjpblkhmmaaQCPx15
import Derived.Test.YthajjjpblkhmmaaQCPx18
namespace Go.Proofs.Ythajjjpblkhmmaa.CP
open Go.RowKit Go.Proofs.Ythajjjpblkhmmaa.B Go.Proofs.YthajjjpblkhmmaaW.PrintWords Go.Proofs.YthajjjpblkhmmaaW.PrintLast Go.Proofs.YthajjjpblkhmmaaW.PrintMore
attribute [local go_sem] max2_int min2_int max_two min_two max_three min_three max_four min_four   -- for this text's walks alone
set_option linter.unusedVariables false
set_option linter.unusedSimpArgs false

/-! ### spec_l12Left: function 86 -/
mutual
def spec_l12Left.j0 : Nat → List (S28) → List (List Int) → Bool → Int → Int → Int → Int → List (S42) → Option ((List (List Int)) × Bool)
  | 0, _, _, _, _, _, _, _, _ => none
  | k + 1, x1, x6, x23, x573000, x573001, x573002, x573003, x573004 => if x23 = true then (some (x6, false)) else (spec_l12Left.l0 k x1 x6 0 x573000 x573001 x573002 x573003 x573004)
def spec_l12Left.l0 : Nat → List (S28) → List (List Int) → Int → Int → Int → Int → Int → List (S42) → Option ((List (List Int)) × Bool)
  | 0, _, _, _, _, _, _, _, _ => none
  | k + 1, x1, x6, x7, x573000, x573001, x573002, x573003, x573004 => if x7 < (x573004.length : Int) then (spec_l12Left.l1 k x1 x6 x7 (([] : List Int)) 0 x573000 x573001 x573002 x573003 x573004) else (spec_l12Left.l2 k x1 x6 0 x573000 x573001 x573002 x573003 x573004)
def spec_l12Left.l1 : Nat → List (S28) → List (List Int) → Int → List Int → Int → Int → Int → Int → Int → List (S42) → Option ((List (List Int)) × Bool)
  | 0, _, _, _, _, _, _, _, _, _, _ => none
  | k + 1, x1, x6, x7, x8, x9, x573000, x573001, x573002, x573003, x573004 => if x9 < 64 then (if x8.length < 17592186044416 then (spec_l12Left.l1 k x1 x6 x7 (x8 ++ [(-1)]) (wrap64 (x9 + 1)) x573000 x573001 x573002 x573003 x573004) else (none)) else (if x6.length < 5864062014805 then (spec_l12Left.l0 k x1 (x6 ++ [x8]) (wrap64 (x7 + 1)) x573000 x573001 x573002 x573003 x573004) else (none))
def spec_l12Left.l2 : Nat → List (S28) → List (List Int) → Int → Int → Int → Int → Int → List (S42) → Option ((List (List Int)) × Bool)
  | 0, _, _, _, _, _, _, _, _ => none
  | k + 1, x1, x6, x10, x573000, x573001, x573002, x573003, x573004 => if x10 < (x1.length : Int) then (if 0 ≤ x10 then ((spec_ScanOk.f k x573000 x573001 x573002 x573003 x573004 ((rd_T28 x1 x10).f0) ((rd_T28 x1 x10).f1) ((rd_T28 x1 x10).f2) ((rd_T28 x1 x10).f3) ((rd_T28 x1 x10).f4)).bind fun t588 => (if t588 = true then (if ((rd_T28 x1 x10).f3) = 0 then (spec_l12Left.j4 k x1 x6 x10 (-1) x573000 x573001 x573002 x573003 x573004 ((rd_T28 x1 x10).f0) ((rd_T28 x1 x10).f1) ((rd_T28 x1 x10).f2) ((rd_T28 x1 x10).f3) ((rd_T28 x1 x10).f4)) else (spec_l12Left.j4 k x1 x6 x10 ((rd_T28 x1 x10).f3) x573000 x573001 x573002 x573003 x573004 ((rd_T28 x1 x10).f0) ((rd_T28 x1 x10).f1) ((rd_T28 x1 x10).f2) ((rd_T28 x1 x10).f3) ((rd_T28 x1 x10).f4))) else (some ((([] : List (List Int))), false)))) else (none)) else (some (x6, true))
def spec_l12Left.j4 : Nat → List (S28) → List (List Int) → Int → Int → Int → Int → Int → Int → List (S42) → List Int → Int → Int → Int → Int → Option ((List (List Int)) × Bool)
  | 0, _, _, _, _, _, _, _, _, _, _, _, _, _, _ => none
  | k + 1, x1, x6, x10, x12, x573000, x573001, x573002, x573003, x573004, x588000, x588001, x588002, x588003, x588004 => spec_l12Left.l3 k x1 x6 x10 x12 0 x573000 x573001 x573002 x573003 x573004 x588000 x588001 x588002 x588003 x588004
def spec_l12Left.l3 : Nat → List (S28) → List (List Int) → Int → Int → Int → Int → Int → Int → Int → List (S42) → List Int → Int → Int → Int → Int → Option ((List (List Int)) × Bool)
  | 0, _, _, _, _, _, _, _, _, _, _, _, _, _, _, _ => none
  | k + 1, x1, x6, x10, x12, x13, x573000, x573001, x573002, x573003, x573004, x588000, x588001, x588002, x588003, x588004 => if x13 < (x588000.length : Int) then (spec_l12Left.l4 k x1 x6 x10 x12 x13 x588001 x573000 x573001 x573002 x573003 x573004 x588000 x588001 x588002 x588003 x588004) else (spec_l12Left.l2 k x1 x6 (wrap64 (x10 + 1)) x573000 x573001 x573002 x573003 x573004)
def spec_l12Left.l4 : Nat → List (S28) → List (List Int) → Int → Int → Int → Int → Int → Int → Int → Int → List (S42) → List Int → Int → Int → Int → Int → Option ((List (List Int)) × Bool)
  | 0, _, _, _, _, _, _, _, _, _, _, _, _, _, _, _, _ => none
  | k + 1, x1, x6, x10, x12, x13, x14, x573000, x573001, x573002, x573003, x573004, x588000, x588001, x588002, x588003, x588004 => if x14 ≤ x588002 then (if 0 ≤ x13 then (if x13 < (x588000.length : Int) then (if 0 ≤ (rd x588000 x13) then (if (rd x588000 x13) < (x6.length : Int) then (if 0 ≤ x14 then (if x14 < ((rd_L3 x6 (rd x588000 x13)).length : Int) then (if (rd (rd_L3 x6 (rd x588000 x13)) x14) = x12 then (spec_l12Left.l4 k x1 (x6.set ((rd x588000 x13) : Int).toNat ((rd_L3 x6 (rd x588000 x13)).set (x14 : Int).toNat x588004)) x10 x12 x13 (wrap64 (x14 + 1)) x573000 x573001 x573002 x573003 x573004 x588000 x588001 x588002 x588003 x588004) else (some ((([] : List (List Int))), false))) else (none)) else (none)) else (none)) else (none)) else (none)) else (none)) else (spec_l12Left.l3 k x1 x6 x10 x12 (wrap64 (x13 + 1)) x573000 x573001 x573002 x573003 x573004 x588000 x588001 x588002 x588003 x588004)
end
def spec_l12Left.f (k : Nat) (a0_0 : Int) (a0_1 : Int) (a0_2 : Int) (a0_3 : Int) (l0_4 : List (S42)) (l1 : List (S28)) : Option ((List (List Int)) × Bool) := (some (([] : List (List Int)) : List (List Int))).bind fun y573 => ((spec_FrameOk.f k a0_0 a0_1 a0_2 a0_3 l0_4).bind fun t576 => (if t576 = true then (spec_l12Left.j0 k l1 y573 (decide ((l1.length : Int) > 40)) a0_0 a0_1 a0_2 a0_3 l0_4) else (spec_l12Left.j0 k l1 y573 true a0_0 a0_1 a0_2 a0_3 l0_4)))
theorem spec_l12Left.mono_l : ∀ k, (∀ y0 y1 y2 y3 y4 y5 y6 y7, LeO (spec_l12Left.j0 k y0 y1 y2 y3 y4 y5 y6 y7) (spec_l12Left.j0 (k + 1) y0 y1 y2 y3 y4 y5 y6 y7)) ∧ (∀ y0 y1 y2 y3 y4 y5 y6 y7, LeO (spec_l12Left.l0 k y0 y1 y2 y3 y4 y5 y6 y7) (spec_l12Left.l0 (k + 1) y0 y1 y2 y3 y4 y5 y6 y7)) ∧ (∀ y0 y1 y2 y3 y4 y5 y6 y7 y8 y9, LeO (spec_l12Left.l1 k y0 y1 y2 y3 y4 y5 y6 y7 y8 y9) (spec_l12Left.l1 (k + 1) y0 y1 y2 y3 y4 y5 y6 y7 y8 y9)) ∧ (∀ y0 y1 y2 y3 y4 y5 y6 y7, LeO (spec_l12Left.l2 k y0 y1 y2 y3 y4 y5 y6 y7) (spec_l12Left.l2 (k + 1) y0 y1 y2 y3 y4 y5 y6 y7)) ∧ (∀ y0 y1 y2 y3 y4 y5 y6 y7 y8 y9 y10 y11 y12 y13, LeO (spec_l12Left.j4 k y0 y1 y2 y3 y4 y5 y6 y7 y8 y9 y10 y11 y12 y13) (spec_l12Left.j4 (k + 1) y0 y1 y2 y3 y4 y5 y6 y7 y8 y9 y10 y11 y12 y13)) ∧ (∀ y0 y1 y2 y3 y4 y5 y6 y7 y8 y9 y10 y11 y12 y13 y14, LeO (spec_l12Left.l3 k y0 y1 y2 y3 y4 y5 y6 y7 y8 y9 y10 y11 y12 y13 y14) (spec_l12Left.l3 (k + 1) y0 y1 y2 y3 y4 y5 y6 y7 y8 y9 y10 y11 y12 y13 y14)) ∧ (∀ y0 y1 y2 y3 y4 y5 y6 y7 y8 y9 y10 y11 y12 y13 y14 y15, LeO (spec_l12Left.l4 k y0 y1 y2 y3 y4 y5 y6 y7 y8 y9 y10 y11 y12 y13 y14 y15) (spec_l12Left.l4 (k + 1) y0 y1 y2 y3 y4 y5 y6 y7 y8 y9 y10 y11 y12 y13 y14 y15))
 | 0 => ⟨fun _ _ _ _ _ _ _ _ r h => by simp [spec_l12Left.j0] at h, fun _ _ _ _ _ _ _ _ r h => by simp [spec_l12Left.l0] at h, fun _ _ _ _ _ _ _ _ _ _ r h => by simp [spec_l12Left.l1] at h, fun _ _ _ _ _ _ _ _ r h => by simp [spec_l12Left.l2] at h, fun _ _ _ _ _ _ _ _ _ _ _ _ _ _ r h => by simp [spec_l12Left.j4] at h, fun _ _ _ _ _ _ _ _ _ _ _ _ _ _ _ r h => by simp [spec_l12Left.l3] at h, fun _ _ _ _ _ _ _ _ _ _ _ _ _ _ _ _ r h => by simp [spec_l12Left.l4] at h⟩
 | k + 1 => by
  obtain ⟨ih0, ih1, ih2, ih3, ih4, ih5, ih6⟩ := spec_l12Left.mono_l k
  refine ⟨?_, ?_, ?_, ?_, ?_, ?_, ?_⟩
  ·intro y0 y1 y2 y3 y4 y5 y6 y7
   unfold spec_l12Left.j0
   repeat' first
   | (with_reducible exact ih0 _ _ _ _ _ _ _ _)
   | (with_reducible exact ih1 _ _ _ _ _ _ _ _)
   | (with_reducible exact ih2 _ _ _ _ _ _ _ _ _ _)
   | (with_reducible exact ih3 _ _ _ _ _ _ _ _)
   | (with_reducible exact ih4 _ _ _ _ _ _ _ _ _ _ _ _ _ _)
   | (with_reducible exact ih5 _ _ _ _ _ _ _ _ _ _ _ _ _ _ _)
   | (with_reducible exact ih6 _ _ _ _ _ _ _ _ _ _ _ _ _ _ _ _)
   | (with_reducible exact spec_FrameOk.mono _ _ _ _ _ _)
   | (with_reducible exact spec_ScanOk.mono _ _ _ _ _ _ _ _ _ _ _)
   | (with_reducible exact LeO.refl _)
   | (with_reducible exact LeO.none _)
   | (with_reducible refine LeO.ite ?_ ?_)
   | (with_reducible refine LeO.bind ?_ (fun _ => ?_))
   | exact ih0 _ _ _ _ _ _ _ _
   | exact ih1 _ _ _ _ _ _ _ _
   | exact ih2 _ _ _ _ _ _ _ _ _ _
   | exact ih3 _ _ _ _ _ _ _ _
   | exact ih4 _ _ _ _ _ _ _ _ _ _ _ _ _ _
   | exact ih5 _ _ _ _ _ _ _ _ _ _ _ _ _ _ _
   | exact ih6 _ _ _ _ _ _ _ _ _ _ _ _ _ _ _ _
   | exact spec_FrameOk.mono _ _ _ _ _ _
   | exact spec_ScanOk.mono _ _ _ _ _ _ _ _ _ _ _
   | exact LeO.none _
   | refine LeO.ite ?_ ?_
   | refine LeO.bind ?_ (fun _ => ?_)
  ·intro y0 y1 y2 y3 y4 y5 y6 y7
   unfold spec_l12Left.l0
   repeat' first
   | (with_reducible exact ih0 _ _ _ _ _ _ _ _)
   | (with_reducible exact ih1 _ _ _ _ _ _ _ _)
   | (with_reducible exact ih2 _ _ _ _ _ _ _ _ _ _)
   | (with_reducible exact ih3 _ _ _ _ _ _ _ _)
   | (with_reducible exact ih4 _ _ _ _ _ _ _ _ _ _ _ _ _ _)
   | (with_reducible exact ih5 _ _ _ _ _ _ _ _ _ _ _ _ _ _ _)
   | (with_reducible exact ih6 _ _ _ _ _ _ _ _ _ _ _ _ _ _ _ _)
   | (with_reducible exact spec_FrameOk.mono _ _ _ _ _ _)
   | (with_reducible exact spec_ScanOk.mono _ _ _ _ _ _ _ _ _ _ _)
   | (with_reducible exact LeO.refl _)
   | (with_reducible exact LeO.none _)
   | (with_reducible refine LeO.ite ?_ ?_)
   | (with_reducible refine LeO.bind ?_ (fun _ => ?_))
   | exact ih0 _ _ _ _ _ _ _ _
   | exact ih1 _ _ _ _ _ _ _ _
   | exact ih2 _ _ _ _ _ _ _ _ _ _
   | exact ih3 _ _ _ _ _ _ _ _
   | exact ih4 _ _ _ _ _ _ _ _ _ _ _ _ _ _
   | exact ih5 _ _ _ _ _ _ _ _ _ _ _ _ _ _ _
   | exact ih6 _ _ _ _ _ _ _ _ _ _ _ _ _ _ _ _
   | exact spec_FrameOk.mono _ _ _ _ _ _
   | exact spec_ScanOk.mono _ _ _ _ _ _ _ _ _ _ _
   | exact LeO.none _
   | refine LeO.ite ?_ ?_
   | refine LeO.bind ?_ (fun _ => ?_)
  ·intro y0 y1 y2 y3 y4 y5 y6 y7 y8 y9
   unfold spec_l12Left.l1
   repeat' first
   | (with_reducible exact ih0 _ _ _ _ _ _ _ _)
   | (with_reducible exact ih1 _ _ _ _ _ _ _ _)
   | (with_reducible exact ih2 _ _ _ _ _ _ _ _ _ _)
   | (with_reducible exact ih3 _ _ _ _ _ _ _ _)
   | (with_reducible exact ih4 _ _ _ _ _ _ _ _ _ _ _ _ _ _)
   | (with_reducible exact ih5 _ _ _ _ _ _ _ _ _ _ _ _ _ _ _)
   | (with_reducible exact ih6 _ _ _ _ _ _ _ _ _ _ _ _ _ _ _ _)
   | (with_reducible exact spec_FrameOk.mono _ _ _ _ _ _)
   | (with_reducible exact spec_ScanOk.mono _ _ _ _ _ _ _ _ _ _ _)
   | (with_reducible exact LeO.refl _)
   | (with_reducible exact LeO.none _)
   | (with_reducible refine LeO.ite ?_ ?_)
   | (with_reducible refine LeO.bind ?_ (fun _ => ?_))
   | exact ih0 _ _ _ _ _ _ _ _
   | exact ih1 _ _ _ _ _ _ _ _
   | exact ih2 _ _ _ _ _ _ _ _ _ _
   | exact ih3 _ _ _ _ _ _ _ _
   | exact ih4 _ _ _ _ _ _ _ _ _ _ _ _ _ _
   | exact ih5 _ _ _ _ _ _ _ _ _ _ _ _ _ _ _
   | exact ih6 _ _ _ _ _ _ _ _ _ _ _ _ _ _ _ _
   | exact spec_FrameOk.mono _ _ _ _ _ _
   | exact spec_ScanOk.mono _ _ _ _ _ _ _ _ _ _ _
   | exact LeO.none _
   | refine LeO.ite ?_ ?_
   | refine LeO.bind ?_ (fun _ => ?_)
  ·intro y0 y1 y2 y3 y4 y5 y6 y7
   unfold spec_l12Left.l2
   repeat' first
   | (with_reducible exact ih0 _ _ _ _ _ _ _ _)
   | (with_reducible exact ih1 _ _ _ _ _ _ _ _)
   | (with_reducible exact ih2 _ _ _ _ _ _ _ _ _ _)
   | (with_reducible exact ih3 _ _ _ _ _ _ _ _)
   | (with_reducible exact ih4 _ _ _ _ _ _ _ _ _ _ _ _ _ _)
   | (with_reducible exact ih5 _ _ _ _ _ _ _ _ _ _ _ _ _ _ _)
   | (with_reducible exact ih6 _ _ _ _ _ _ _ _ _ _ _ _ _ _ _ _)
   | (with_reducible exact spec_FrameOk.mono _ _ _ _ _ _)
   | (with_reducible exact spec_ScanOk.mono _ _ _ _ _ _ _ _ _ _ _)
   | (with_reducible exact LeO.refl _)
   | (with_reducible exact LeO.none _)
   | (with_reducible refine LeO.ite ?_ ?_)
   | (with_reducible refine LeO.bind ?_ (fun _ => ?_))
   | exact ih0 _ _ _ _ _ _ _ _
   | exact ih1 _ _ _ _ _ _ _ _
   | exact ih2 _ _ _ _ _ _ _ _ _ _
   | exact ih3 _ _ _ _ _ _ _ _
   | exact ih4 _ _ _ _ _ _ _ _ _ _ _ _ _ _
   | exact ih5 _ _ _ _ _ _ _ _ _ _ _ _ _ _ _
   | exact ih6 _ _ _ _ _ _ _ _ _ _ _ _ _ _ _ _
   | exact spec_FrameOk.mono _ _ _ _ _ _
   | exact spec_ScanOk.mono _ _ _ _ _ _ _ _ _ _ _
   | exact LeO.none _
   | refine LeO.ite ?_ ?_
   | refine LeO.bind ?_ (fun _ => ?_)
  ·intro y0 y1 y2 y3 y4 y5 y6 y7 y8 y9 y10 y11 y12 y13
   unfold spec_l12Left.j4
   repeat' first
   | (with_reducible exact ih0 _ _ _ _ _ _ _ _)
   | (with_reducible exact ih1 _ _ _ _ _ _ _ _)
   | (with_reducible exact ih2 _ _ _ _ _ _ _ _ _ _)
   | (with_reducible exact ih3 _ _ _ _ _ _ _ _)
   | (with_reducible exact ih4 _ _ _ _ _ _ _ _ _ _ _ _ _ _)
   | (with_reducible exact ih5 _ _ _ _ _ _ _ _ _ _ _ _ _ _ _)
   | (with_reducible exact ih6 _ _ _ _ _ _ _ _ _ _ _ _ _ _ _ _)
   | (with_reducible exact spec_FrameOk.mono _ _ _ _ _ _)
   | (with_reducible exact spec_ScanOk.mono _ _ _ _ _ _ _ _ _ _ _)
   | (with_reducible exact LeO.refl _)
   | (with_reducible exact LeO.none _)
   | (with_reducible refine LeO.ite ?_ ?_)
   | (with_reducible refine LeO.bind ?_ (fun _ => ?_))
   | exact ih0 _ _ _ _ _ _ _ _
   | exact ih1 _ _ _ _ _ _ _ _
   | exact ih2 _ _ _ _ _ _ _ _ _ _
   | exact ih3 _ _ _ _ _ _ _ _
   | exact ih4 _ _ _ _ _ _ _ _ _ _ _ _ _ _
   | exact ih5 _ _ _ _ _ _ _ _ _ _ _ _ _ _ _
   | exact ih6 _ _ _ _ _ _ _ _ _ _ _ _ _ _ _ _
   | exact spec_FrameOk.mono _ _ _ _ _ _
   | exact spec_ScanOk.mono _ _ _ _ _ _ _ _ _ _ _
   | exact LeO.none _
   | refine LeO.ite ?_ ?_
   | refine LeO.bind ?_ (fun _ => ?_)
  ·intro y0 y1 y2 y3 y4 y5 y6 y7 y8 y9 y10 y11 y12 y13 y14
   unfold spec_l12Left.l3
   repeat' first
   | (with_reducible exact ih0 _ _ _ _ _ _ _ _)
   | (with_reducible exact ih1 _ _ _ _ _ _ _ _)
   | (with_reducible exact ih2 _ _ _ _ _ _ _ _ _ _)
   | (with_reducible exact ih3 _ _ _ _ _ _ _ _)
   | (with_reducible exact ih4 _ _ _ _ _ _ _ _ _ _ _ _ _ _)
   | (with_reducible exact ih5 _ _ _ _ _ _ _ _ _ _ _ _ _ _ _)
   | (with_reducible exact ih6 _ _ _ _ _ _ _ _ _ _ _ _ _ _ _ _)
   | (with_reducible exact spec_FrameOk.mono _ _ _ _ _ _)
   | (with_reducible exact spec_ScanOk.mono _ _ _ _ _ _ _ _ _ _ _)
   | (with_reducible exact LeO.refl _)
   | (with_reducible exact LeO.none _)
   | (with_reducible refine LeO.ite ?_ ?_)
   | (with_reducible refine LeO.bind ?_ (fun _ => ?_))
   | exact ih0 _ _ _ _ _ _ _ _
   | exact ih1 _ _ _ _ _ _ _ _
   | exact ih2 _ _ _ _ _ _ _ _ _ _
   | exact ih3 _ _ _ _ _ _ _ _
   | exact ih4 _ _ _ _ _ _ _ _ _ _ _ _ _ _
   | exact ih5 _ _ _ _ _ _ _ _ _ _ _ _ _ _ _
   | exact ih6 _ _ _ _ _ _ _ _ _ _ _ _ _ _ _ _
   | exact spec_FrameOk.mono _ _ _ _ _ _
   | exact spec_ScanOk.mono _ _ _ _ _ _ _ _ _ _ _
   | exact LeO.none _
   | refine LeO.ite ?_ ?_
   | refine LeO.bind ?_ (fun _ => ?_)
  ·intro y0 y1 y2 y3 y4 y5 y6 y7 y8 y9 y10 y11 y12 y13 y14 y15
   unfold spec_l12Left.l4
   repeat' first
   | (with_reducible exact ih0 _ _ _ _ _ _ _ _)
   | (with_reducible exact ih1 _ _ _ _ _ _ _ _)
   | (with_reducible exact ih2 _ _ _ _ _ _ _ _ _ _)
   | (with_reducible exact ih3 _ _ _ _ _ _ _ _)
   | (with_reducible exact ih4 _ _ _ _ _ _ _ _ _ _ _ _ _ _)
   | (with_reducible exact ih5 _ _ _ _ _ _ _ _ _ _ _ _ _ _ _)
   | (with_reducible exact ih6 _ _ _ _ _ _ _ _ _ _ _ _ _ _ _ _)
   | (with_reducible exact spec_FrameOk.mono _ _ _ _ _ _)
   | (with_reducible exact spec_ScanOk.mono _ _ _ _ _ _ _ _ _ _ _)
   | (with_reducible exact LeO.refl _)
   | (with_reducible exact LeO.none _)
   | (with_reducible refine LeO.ite ?_ ?_)
   | (with_reducible refine LeO.bind ?_ (fun _ => ?_))
   | exact ih0 _ _ _ _ _ _ _ _
   | exact ih1 _ _ _ _ _ _ _ _
   | exact ih2 _ _ _ _ _ _ _ _ _ _
   | exact ih3 _ _ _ _ _ _ _ _
   | exact ih4 _ _ _ _ _ _ _ _ _ _ _ _ _ _
   | exact ih5 _ _ _ _ _ _ _ _ _ _ _ _ _ _ _
   | exact ih6 _ _ _ _ _ _ _ _ _ _ _ _ _ _ _ _
   | exact spec_FrameOk.mono _ _ _ _ _ _
   | exact spec_ScanOk.mono _ _ _ _ _ _ _ _ _ _ _
   | exact LeO.none _
   | refine LeO.ite ?_ ?_
   | refine LeO.bind ?_ (fun _ => ?_)
theorem spec_l12Left.mono : ∀ a0 a1 a2 a3 a4 a5 k, LeO (spec_l12Left.f k a0 a1 a2 a3 a4 a5) (spec_l12Left.f (k + 1) a0 a1 a2 a3 a4 a5) := by
 intro a0 a1 a2 a3 a4 a5 k
 obtain ⟨ih0, ih1, ih2, ih3, ih4, ih5, ih6⟩ := spec_l12Left.mono_l k
 unfold spec_l12Left.f
 repeat' first
   | (with_reducible exact ih0 _ _ _ _ _ _ _ _)
   | (with_reducible exact ih1 _ _ _ _ _ _ _ _)
   | (with_reducible exact ih2 _ _ _ _ _ _ _ _ _ _)
   | (with_reducible exact ih3 _ _ _ _ _ _ _ _)
   | (with_reducible exact ih4 _ _ _ _ _ _ _ _ _ _ _ _ _ _)
   | (with_reducible exact ih5 _ _ _ _ _ _ _ _ _ _ _ _ _ _ _)
   | (with_reducible exact ih6 _ _ _ _ _ _ _ _ _ _ _ _ _ _ _ _)
   | (with_reducible exact spec_FrameOk.mono _ _ _ _ _ _)
   | (with_reducible exact spec_ScanOk.mono _ _ _ _ _ _ _ _ _ _ _)
   | (with_reducible exact LeO.refl _)
   | (with_reducible exact LeO.none _)
   | (with_reducible refine LeO.ite ?_ ?_)
   | (with_reducible refine LeO.bind ?_ (fun _ => ?_))
   | exact ih0 _ _ _ _ _ _ _ _
   | exact ih1 _ _ _ _ _ _ _ _
   | exact ih2 _ _ _ _ _ _ _ _ _ _
   | exact ih3 _ _ _ _ _ _ _ _
   | exact ih4 _ _ _ _ _ _ _ _ _ _ _ _ _ _
   | exact ih5 _ _ _ _ _ _ _ _ _ _ _ _ _ _ _
   | exact ih6 _ _ _ _ _ _ _ _ _ _ _ _ _ _ _ _
   | exact spec_FrameOk.mono _ _ _ _ _ _
   | exact spec_ScanOk.mono _ _ _ _ _ _ _ _ _ _ _
   | exact LeO.none _
   | refine LeO.ite ?_ ?_
   | refine LeO.bind ?_ (fun _ => ?_)
def spec_l12Left.T30 : Bool × List (List Nat × List Nat) := (true, [([], []), ([], []), ([1], [1]), ([], []), ([2, 3], [2, 3]), ([4], [4]), ([0, 5], [0, 5]), ([6], [6]), ([], []), ([], []), ([9], [9]), ([7, 8, 0, 1, 2, 3, 4, 5, 6, 7, 8, 9, 10], [7, 8]), ([11, 10, 0, 1, 2, 3, 4, 5, 6, 7, 8, 9, 10], [10, 11])])
def spec_l12Left.B30 : List Nat := [0, 0, 2, 0, 14, 30, 63, 127, 0, 0, 512, 2047, 4095]
theorem spec_l12Left.tab30 : rtab .any (opsOf Try.f86 30) = spec_l12Left.T30 := by kernel_rfl
theorem spec_l12Left.bits30 : waitsOk spec_l12Left.T30.2 spec_l12Left.B30 = true := by kernel_rfl
set_option maxHeartbeats 8000000 in
set_option maxRecDepth 100000 in
theorem spec_l12Left.calls (k : Nat) (a0_0 : Int) (a0_1 : Int) (a0_2 : Int) (a0_3 : Int) (A0_4 : Option Addr) (c0_4 : Nat) (l0_4 : List (S42)) (A1 : Option Addr) (c1 : Nat) (l1 : List (S28)) (r1 : List (List Int)) (r2 : Bool) (w : World) (hr0_4 : Kd.C k42 w A0_4 l0_4.length l0_4) (hc0_4 : l0_4.length ≤ c0_4) (hr1 : Kd.C k28 w A1 l1.length l1) (hc1 : l1.length ≤ c1) (h : spec_l12Left.f k a0_0 a0_1 a0_2 a0_3 l0_4 l1 = some (r1, r2)) :
  Calls Try.prog 86 #[.agg #[.int .i64 a0_0, .int .i64 a0_1, .int .i64 a0_2, .int .i64 a0_3, .slice A0_4 l0_4.length c0_4], .slice A1 l1.length c1] w fun e w' => ∃ v0_ : Value, e = .returned (.tuple #[v0_, .bool r2]) ∧ Kd.S (Kd.slice 3 (Kd.int .i64)) 22 w' w.heap.size (fun _ => True) v0_ r1 ∧ Below w.heap.size w w' := by
 have hu45 := Try.underlying45
 have hu28 := Try.underlying28
 have HR0_4 := aM hr0_4
 have HC0_4 := aM hc0_4
 clear hr0_4 hc0_4
 have HR1 := aM hr1
 have HC1 := aM hc1
 clear hr1 hc1
 have HB := aM (Below.refl w.heap.size w)
 have H : ((some (([] : List (List Int)) : List (List Int))).bind fun y573 => ((spec_FrameOk.f k a0_0 a0_1 a0_2 a0_3 l0_4).bind fun t576 => (if t576 = true then (spec_l12Left.j0 k l1 y573 (decide ((l1.length : Int) > 40)) a0_0 a0_1 a0_2 a0_3 l0_4) else (spec_l12Left.j0 k l1 y573 true a0_0 a0_1 a0_2 a0_3 l0_4)))) = some (r1, r2) := h
 clear h
 obtain ⟨y573, hy573⟩ : ∃ y_ : List (List Int), y_ = (([] : List (List Int))) := ⟨_, rfl⟩
 replace H : ((spec_FrameOk.f k a0_0 a0_1 a0_2 a0_3 l0_4).bind fun t576 => (if t576 = true then (spec_l12Left.j0 k l1 y573 (decide ((l1.length : Int) > 40)) a0_0 a0_1 a0_2 a0_3 l0_4) else (spec_l12Left.j0 k l1 y573 true a0_0 a0_1 a0_2 a0_3 l0_4))) = some (r1, r2) := by first | (rw [hy573]; with_reducible exact H) | (have H2_ := (Option.bind_some _ _).symm.trans H; rw [hy573]; with_reducible exact H2_) | (have H2_ := (Option.bind_some _ _).symm.trans H; with_reducible exact H2_) | with_reducible exact H | (rw [hy573]; exact H) | exact H
 have Ny573 := aM hy573
 clear hy573
 have HC3 := aM H
 clear H
 go_enter Try.func86, Try.ntmps86
 go_upto_region 2 with (first | ((with_reducible refine gate_dst (N := 2) rfl ?_); (try (refine gate_guard (by rfl) ?_; dsimp only)); refine box_event ?hg (N := 2) ?hd (cs := #[.int .i64 a0_0, .int .i64 a0_1, .int .i64 a0_2, .int .i64 a0_3, .slice A0_4 l0_4.length c0_4]) (t := 45) ?hr ?_; (case hd => rfl); (case hg => rfl); (case hr => first | (go_simp; done) | (go_simp; rfl)); intro gb572 hg w4 hbox hb; have BK572 := aM hbox; have GW572 := aM (zG hg : w.heap.size ≤ gb572); have GE572 := aM (zG hg : w.heap.size ≤ gb572); replace HB := cH HB hb; clear hb hbox hg) | ((with_reducible refine gate_dst (N := 15) rfl ?_); (try (refine gate_guard (by rfl) ?_; dsimp only)); refine Kd.S_lit (Kd.slice 3 (Kd.int .i64)) _ 22 ?hg (N := 15) ?hd (xs := ([] : List (List Int))) (inner := []) (ok := fun _ => True) (okp := fun _ => True) ?hr ?hp (fun _ hk => hk) trivial (Below.refl _ _) (Nat.le_refl _) (by simp) ?_; (case hd => rfl); (case hg => rfl); (case hr => first | (go_simp; done) | (go_simp; rfl)); (case hp => exact (Reps.none _ _)); intro v574 w5 ho6 hb hg_ hnew_; clear hg_ hnew_; (first | rw [← Ny573.out] at ho6 | (simp only [Int.reduceToNat] at ho6; rw [← Ny573.out] at ho6)); have HO575 := aM (Kd.S_lower ho6 (below_size zH)); replace BK572 := cB BK572 hb; replace HB := cH HB hb; clear hb ho6))
 (try simp only [Act.put, List.setIfInBounds_toArray, List.set_cons_zero, List.set_cons_succ])
 go_cut [23] (fun v23 wc => ∃ (kq : Nat) (x23_2 : Bool), v23 = .bool x23_2 ∧ Aside0 (spec_l12Left.j0 kq l1 y573 x23_2 a0_0 a0_1 a0_2 a0_3 l0_4 = some (r1, r2)) ∧ Aside0 (kq ≤ k) ∧ Aside0 (Kd.S (Kd.slice 3 (Kd.int .i64)) 22 wc w.heap.size (fun _ => True) v574 y573) ∧ Aside0 (wc.heap[gb572]? = some (.cells #[.int .i64 a0_0, .int .i64 a0_1, .int .i64 a0_2, .int .i64 a0_3, (.slice A0_4 l0_4.length c0_4)] 45 (0, 0))) ∧ Aside0 (Below w.heap.size w wc))
 case first =>
  have H := HC3.out
  clear HC3
  obtain ⟨t576, A7, H⟩ := oH H
  by_cases c8 : t576 = true
  ·subst c8
   replace H := iT H
   have H' := aM H
   clear H
   obtain ⟨hcz9_0, hcz9_1, hcz9_2, hcz9_3, hcz9_4⟩ := kk5 BK572
   obtain ⟨hfz9_0, hfz9_1, hfz9_2, hfz9_3, hfz9_4⟩ := kg5 BK572
   go_wp2_with (first | (go_at_call 85; (with_reducible refine (spec_FrameOk.calls k a0_0 a0_1 a0_2 a0_3 _ _ l0_4 true _ ?side1 ?side2 A7.out).mono ?_); (case side1 => exact zC (Kd.C_below HR0_4.out HB.out)); (case side2 => exact HC0_4.out); rintro e w10 ⟨rfl, hb⟩; replace HO575 := aM (Kd.S_below (by (with_reducible repeat (first | apply Kd.S_alloc | apply Kd.S_drewN | apply Kd.S_drew)); exact HO575.out) hb); replace BK572 := cB BK572 hb; replace HB := cH HB hb; (try clear hb)))
   go_meet
   case rel => exact ⟨_, (decide ((l1.length : Int) > 40)), zS, H', zO, ⟨by (with_reducible repeat (first | apply Kd.S_alloc | apply Kd.S_drewN | apply Kd.S_drew)); exact HO575.out⟩, ⟨zK BK572⟩, ⟨zH⟩⟩
  ·replace c8 := Bool.eq_false_iff.mpr c8
   subst c8
   replace H := iF H
   have H' := aM H
   clear H
   obtain ⟨hcz11_0, hcz11_1, hcz11_2, hcz11_3, hcz11_4⟩ := kk5 BK572
   obtain ⟨hfz11_0, hfz11_1, hfz11_2, hfz11_3, hfz11_4⟩ := kg5 BK572
   go_wp2_with (first | (go_at_call 85; (with_reducible refine (spec_FrameOk.calls k a0_0 a0_1 a0_2 a0_3 _ _ l0_4 false _ ?side1 ?side2 A7.out).mono ?_); (case side1 => exact zC (Kd.C_below HR0_4.out HB.out)); (case side2 => exact HC0_4.out); rintro e w12 ⟨rfl, hb⟩; replace HO575 := aM (Kd.S_below (by (with_reducible repeat (first | apply Kd.S_alloc | apply Kd.S_drewN | apply Kd.S_drew)); exact HO575.out) hb); replace BK572 := cB BK572 hb; replace HB := cH HB hb; (try clear hb)))
   go_meet
   case rel => exact ⟨_, (true), zS, H', zO, ⟨by (with_reducible repeat (first | apply Kd.S_alloc | apply Kd.S_drewN | apply Kd.S_drew)); exact HO575.out⟩, ⟨zK BK572⟩, ⟨zH⟩⟩
 case rest =>
  clear HC3
  try clear c1
  obtain ⟨kq, x23_2, rfl, HA, HJ2, HO_6, BK572, HB⟩ := hcut
  cases kq with
  | zero => exact absurd HA.out (by simp [spec_l12Left.j0])
  | succ kj2 =>
   have H := HA.out
   clear HA
   simp only [spec_l12Left.j0] at H
   by_cases c13 : x23_2 = true
   ·subst c13
    replace H := iT H
    simp only [Option.some.injEq, Prod.mk.injEq] at H
    obtain ⟨rfl, rfl⟩ := H
    go_wp2
    go_ret2
    exact ⟨_, zR, by (with_reducible repeat (first | apply Kd.S_alloc | apply Kd.S_drewN | apply Kd.S_drew)); exact HO_6.out, zH⟩
   ·replace c13 := Bool.eq_false_iff.mpr c13
    subst c13
    replace H := iF H
    have H' := aM H
    clear H
    go_wp2
    go_loopg [6, 7] kj2 (fun kq v6 v7 w' => ∃ (x6_2 : List (List Int)) (x7_2 : Int), v7 = .int .i64 x7_2 ∧ Aside0 (spec_l12Left.l0 kq l1 x6_2 x7_2 a0_0 a0_1 a0_2 a0_3 l0_4 = some (r1, r2)) ∧ Aside0 (kq ≤ kj2) ∧ Aside0 (Kd.S (Kd.slice 3 (Kd.int .i64)) 22 w' w.heap.size (fun _ => True) v6 x6_2) ∧ Aside0 (w'.heap[gb572]? = some (.cells #[.int .i64 a0_0, .int .i64 a0_1, .int .i64 a0_2, .int .i64 a0_3, (.slice A0_4 l0_4.length c0_4)] 45 (0, 0))) ∧ Aside0 (Below w.heap.size w w'))
    case atStart => exact ⟨(y573), (0), zS, H', ⟨Nat.le_refl _⟩, ⟨by (with_reducible repeat (first | apply Kd.S_alloc | apply Kd.S_drewN | apply Kd.S_drew)); exact HO_6.out⟩, ⟨zK BK572⟩, ⟨zH⟩⟩
    case round =>
     clear H'
     try clear c13
     obtain ⟨x6_2, x7_2, rfl, HA, HK2, HO_6, BK572, HB⟩ := hrel
     cases gk with
     | zero => exact absurd HA.out (by simp [spec_l12Left.l0])
     | succ k2 =>
      have H := HA.out
      clear HA
      simp only [spec_l12Left.l0] at H
      by_cases c14 : x7_2 < (l0_4.length : Int)
      ·rw [if_pos c14] at H
       have c14b0 : decide (x7_2 < (l0_4.length : Int)) = true := decide_eq_true c14
       clear c14
       obtain ⟨y577, hy577⟩ : ∃ y_ : List Int, y_ = (([] : List Int)) := ⟨_, rfl⟩
       replace H : (spec_l12Left.l1 k2 l1 x6_2 x7_2 y577 0 a0_0 a0_1 a0_2 a0_3 l0_4) = some (r1, r2) := by first | (rw [hy577]; with_reducible exact H) | (have H2_ := (Option.bind_some _ _).symm.trans H; rw [hy577]; with_reducible exact H2_) | (have H2_ := (Option.bind_some _ _).symm.trans H; with_reducible exact H2_) | with_reducible exact H | (rw [hy577]; exact H) | exact H
       have Ny577 := aM hy577
       clear hy577
       have H' := aM H
       clear H
       obtain ⟨hcz15_0, hcz15_1, hcz15_2, hcz15_3, hcz15_4⟩ := kk5 BK572
       obtain ⟨hfz15_0, hfz15_1, hfz15_2, hfz15_3, hfz15_4⟩ := kg5 BK572
       go_wp2_with (first | ((with_reducible refine gate_dst (N := 32) rfl ?_); (try (refine gate_guard (by rfl) ?_; dsimp only)); refine Kd.R_lit (Kd.int .i64) _ 3 ?hg (N := 32) ?hd (xs := ([] : List Int)) (inner := []) (ok := fun _ => True) (okp := fun _ => True) ?hr ?hp (fun _ hk => hk) trivial (Below.refl _ _) (Nat.le_refl _) (by simp) ?_; (case hd => rfl); (case hg => rfl); (case hr => first | (go_simp; done) | (go_simp; rfl)); (case hp => exact (Reps.none _ _)); intro v578 w16 ho17 hb hg_ hnew_; clear hg_ hnew_; (first | rw [← Ny577.out] at ho17 | (simp only [Int.reduceToNat] at ho17; rw [← Ny577.out] at ho17)); replace HO_6 := aM (Kd.S_elder' (by (with_reducible repeat (first | apply Kd.S_alloc | apply Kd.S_drewN | apply Kd.S_drew)); exact HO_6.out) (Kd.R_base ho17) hb); have HO579 := aM (Kd.R_lower ho17 (below_size zH)); replace BK572 := cB BK572 hb; replace HB := cH HB hb; clear hb ho17))
       go_loopg [8, 9] k2 (fun kq v8 v9 w' => ∃ (x8_3 : List Int) (x9_3 : Int), v9 = .int .i64 x9_3 ∧ Aside0 (spec_l12Left.l1 kq l1 x6_2 x7_2 x8_3 x9_3 a0_0 a0_1 a0_2 a0_3 l0_4 = some (r1, r2)) ∧ Aside0 (kq ≤ k2) ∧ Aside0 (Kd.S (Kd.slice 3 (Kd.int .i64)) 22 w' w.heap.size (fun k_ => some k_ ≠ (v8 : Value).ownBlock) u6 x6_2) ∧ Aside0 (Kd.R (Kd.int .i64) 3 w' w.heap.size (fun _ => True) v8 x8_3) ∧ Aside0 (w'.heap[gb572]? = some (.cells #[.int .i64 a0_0, .int .i64 a0_1, .int .i64 a0_2, .int .i64 a0_3, (.slice A0_4 l0_4.length c0_4)] 45 (0, 0))) ∧ Aside0 (Below w.heap.size w w'))
       case atStart => exact ⟨(y577), (0), zS, H', ⟨Nat.le_refl _⟩, ⟨by (with_reducible repeat (first | apply Kd.S_alloc | apply Kd.S_drewN | apply Kd.S_drew)); exact Kd.S_mono HO_6.out (fun _ hk => hk.2)⟩, ⟨by (with_reducible repeat (first | apply Kd.R_alloc | apply Kd.R_drewN | apply Kd.R_drew)); exact HO579.out⟩, ⟨zK BK572⟩, ⟨zH⟩⟩
       case round =>
        clear H'
        (try clear c14b0); (try clear hcz15_0); (try clear hcz15_1); (try clear hcz15_2); (try clear hcz15_3); (try clear hcz15_4); (try clear hfz15_0); (try clear hfz15_1); (try clear hfz15_2); (try clear hfz15_3); (try clear hfz15_4)
        obtain ⟨x8_3, x9_3, rfl, HA, HK3, HO_6, HO_8, BK572, HB⟩ := hrel
        cases gk with
        | zero => exact absurd HA.out (by simp [spec_l12Left.l1])
        | succ k3 =>
         have H := HA.out
         clear HA
         simp only [spec_l12Left.l1] at H
         by_cases c18 : x9_3 < 64
         ·rw [if_pos c18] at H
          have c18b0 : decide (x9_3 < 64) = true := decide_eq_true c18
          clear c18
          by_cases c19 : x8_3.length < 17592186044416
          ·rw [if_pos c19] at H
           have LMc19 := aM c19
           clear c19
           obtain ⟨y580, hy580⟩ : ∃ y_ : List Int, y_ = (x8_3 ++ [(-1)]) := ⟨_, rfl⟩
           replace H : (spec_l12Left.l1 k3 l1 x6_2 x7_2 y580 (wrap64 (x9_3 + 1)) a0_0 a0_1 a0_2 a0_3 l0_4) = some (r1, r2) := by first | (rw [hy580]; with_reducible exact H) | (have H2_ := (Option.bind_some _ _).symm.trans H; rw [hy580]; with_reducible exact H2_) | (have H2_ := (Option.bind_some _ _).symm.trans H; with_reducible exact H2_) | with_reducible exact H | (rw [hy580]; exact H) | exact H
           have Ny580 := aM hy580
           clear hy580
           have H' := aM H
           clear H
           go_wp2_with (first | ((with_reducible refine gate_builtin (b := .append) (xs := #[.tmp 37, .tmp 38]) rfl ?_); (try (refine gate_guard (by rfl) ?_; dsimp only)); at_builtin; refine Kd.R_append (Kd.int .i64) (w0 := w) w.heap.size rfl (.tmp 37) (.tmp 38) 22 3 (.int .i64 0) 8 rfl Try.underlying22 info3 rfl (by decide) (by omega) u8 x8_3 (-1) [.int .i64 (-1)] (fun _ => True) (fun _ => False) rfl rfl ?aP (fun _ hk => hk.elim) ?aF ?aO ?aB ?aS ?aL ?_; (case aP => exact rfl); (case aB => exact zH); (case aF => exact (fun _ _ => trivial)); (case aO => exact (by (with_reducible repeat (first | apply Kd.R_alloc | apply Kd.R_drewN | apply Kd.R_drew)); exact HO_8.out)); (case aS => exact (below_size zH)); (case aL => have := LMc19.out; omega); intro v581 w20 ho hb hg hat; rw [← Ny580.out] at ho; replace HO_6 := aM (Kd.S_after (ok := (fun _ => True)) (by (with_reducible repeat (first | apply Kd.S_alloc | apply Kd.S_drewN | apply Kd.S_drew)); exact Kd.S_mono HO_6.out (fun _ hk => ⟨trivial, hk⟩)) hg hat); replace BK572 := aM (blk_grown (g := gb572) (o := .cells #[.int .i64 a0_0, .int .i64 a0_1, .int .i64 a0_2, .int .i64 a0_3, .slice A0_4 l0_4.length c0_4] 45 (0, 0)) (zK BK572) hg (Kd.R_ne HO_8.out BK572.out (by decide))); replace HB := aM (hb); have HO582 := aM (ho); clear HO_8; clear ho hb hg hat))
           go_roundg k3
           case measure => have := HJ2.out; have := HK2.out; have := HK3.out; omega
           case rel => exact ⟨(y580), (wrap64 (x9_3 + 1)), zS, H', ⟨by have := HJ2.out; have := HK2.out; have := HK3.out; omega⟩, ⟨by (with_reducible repeat (first | apply Kd.S_alloc | apply Kd.S_drewN | apply Kd.S_drew)); exact Kd.S_mono HO_6.out (fun _ hk => hk.2)⟩, ⟨by (with_reducible repeat (first | apply Kd.R_alloc | apply Kd.R_drewN | apply Kd.R_drew)); exact HO582.out⟩, ⟨zK BK572⟩, ⟨zH⟩⟩
          ·rw [if_neg c19] at H
           exact absurd H (by simp)
         ·rw [if_neg c18] at H
          have c18b0 : decide (x9_3 < 64) = false := decide_eq_false c18
          clear c18
          by_cases c21 : x6_2.length < 5864062014805
          ·rw [if_pos c21] at H
           have LMc21 := aM c21
           clear c21
           obtain ⟨y583, hy583⟩ : ∃ y_ : List (List Int), y_ = (x6_2 ++ [x8_3]) := ⟨_, rfl⟩
           replace H : (spec_l12Left.l0 k3 l1 y583 (wrap64 (x7_2 + 1)) a0_0 a0_1 a0_2 a0_3 l0_4) = some (r1, r2) := by first | (rw [hy583]; with_reducible exact H) | (have H2_ := (Option.bind_some _ _).symm.trans H; rw [hy583]; with_reducible exact H2_) | (have H2_ := (Option.bind_some _ _).symm.trans H; with_reducible exact H2_) | with_reducible exact H | (rw [hy583]; exact H) | exact H
           have Ny583 := aM hy583
           clear hy583
           have H' := aM H
           clear H
           obtain ⟨Ao23, co23, eo23⟩ := Kd.R_slice HO_8.out
           subst eo23
           go_wp2_with (first | ((with_reducible refine gate_builtin (b := .append) (xs := #[.tmp 40, .tmp 42]) rfl ?_); (try (refine gate_guard (by rfl) ?_; dsimp only)); at_builtin; refine Kd.S_append (Kd.slice 3 (Kd.int .i64)) (w0 := w) w.heap.size rfl (.tmp 40) (.tmp 42) 49 22 (.slice none 0 0) 24 rfl Try.underlying49 info22 rfl (by decide) (by omega) u6 x6_2 x8_3 [.slice Ao23 x8_3.length co23] (fun _ => True) (fun k_ => some k_ = (.slice Ao23 x8_3.length co23 : Value).ownBlock) rfl rfl ?aP (fun k_ hk_ => ((Kd.R_mono (ok' := fun k_ => ((fun _ => True)) k_ ∧ some k_ ≠ (u6 : Value).ownBlock) (Kd.R_apart' (HO_8.out) (Kd.S_typed HO_6.out) (by decide)) (fun k_ hk => ⟨trivial, hk.2⟩))).1 k_ hk_.symm) ?aF ?aO ?aB ?aS ?aL ?_; (case aP => exact Kd.M_row (Kd.R_mono (Kd.R_tight rfl (Kd.R_mono (ok' := fun k_ => ((fun _ => True)) k_ ∧ some k_ ≠ (u6 : Value).ownBlock) (Kd.R_apart' (HO_8.out) (Kd.S_typed HO_6.out) (by decide)) (fun k_ hk => ⟨trivial, hk.2⟩))) (fun _ h_ => h_))); (case aB => exact zH); (case aF => exact (fun _ _ => trivial)); (case aO => exact (by (with_reducible repeat (first | apply Kd.S_alloc | apply Kd.S_drewN | apply Kd.S_drew)); exact Kd.S_mono HO_6.out (fun k_ hk => ⟨trivial, fun e_ => hk e_⟩))); (case aS => exact (below_size zH)); (case aL => have := LMc21.out; omega); intro v584 w22 ho hb hg hat; rw [← Ny583.out] at ho; replace BK572 := aM (blk_grown (g := gb572) (o := .cells #[.int .i64 a0_0, .int .i64 a0_1, .int .i64 a0_2, .int .i64 a0_3, .slice A0_4 l0_4.length c0_4] 45 (0, 0)) (zK BK572) hg (Kd.S_ne HO_6.out BK572.out (by decide))); replace HB := aM (hb); have HO585 := aM (ho); clear HO_6 HO_8; clear ho hb hg hat))
           go_roundg k3
           case measure => have := HJ2.out; have := HK2.out; have := HK3.out; omega
           case rel => exact ⟨(y583), (wrap64 (x7_2 + 1)), zS, H', ⟨by have := HJ2.out; have := HK2.out; have := HK3.out; omega⟩, ⟨by (with_reducible repeat (first | apply Kd.S_alloc | apply Kd.S_drewN | apply Kd.S_drew)); exact HO585.out⟩, ⟨zK BK572⟩, ⟨zH⟩⟩
          ·rw [if_neg c21] at H
           exact absurd H (by simp)
      ·rw [if_neg c14] at H
       have c14b0 : decide (x7_2 < (l0_4.length : Int)) = false := decide_eq_false c14
       clear c14
       have H' := aM H
       clear H
       obtain ⟨hcz24_0, hcz24_1, hcz24_2, hcz24_3, hcz24_4⟩ := kk5 BK572
       obtain ⟨hfz24_0, hfz24_1, hfz24_2, hfz24_3, hfz24_4⟩ := kg5 BK572
       go_wp2
       go_loopg [10] k2 (fun kq v10 w' => ∃ (x6_3 : List (List Int)) (x10_3 : Int), v10 = .int .i64 x10_3 ∧ Aside0 (spec_l12Left.l2 kq l1 x6_3 x10_3 a0_0 a0_1 a0_2 a0_3 l0_4 = some (r1, r2)) ∧ Aside0 (kq ≤ k2) ∧ Aside0 (Kd.S (Kd.slice 3 (Kd.int .i64)) 22 w' w.heap.size (fun _ => True) u6 x6_3) ∧ Aside0 (w'.heap[gb572]? = some (.cells #[.int .i64 a0_0, .int .i64 a0_1, .int .i64 a0_2, .int .i64 a0_3, (.slice A0_4 l0_4.length c0_4)] 45 (0, 0))) ∧ Aside0 (Below w.heap.size w w'))
       case atStart => exact ⟨(x6_2), (0), zS, H', ⟨Nat.le_refl _⟩, ⟨by (with_reducible repeat (first | apply Kd.S_alloc | apply Kd.S_drewN | apply Kd.S_drew)); exact HO_6.out⟩, ⟨zK BK572⟩, ⟨zH⟩⟩
       case round =>
        clear H'
        (try clear c14b0); (try clear hcz24_0); (try clear hcz24_1); (try clear hcz24_2); (try clear hcz24_3); (try clear hcz24_4); (try clear hfz24_0); (try clear hfz24_1); (try clear hfz24_2); (try clear hfz24_3); (try clear hfz24_4)
        obtain ⟨x6_3, x10_3, rfl, HA, HK3, HO_6, BK572, HB⟩ := hrel
        cases gk with
        | zero => exact absurd HA.out (by simp [spec_l12Left.l2])
        | succ k3 =>
         have H := HA.out
         clear HA
         simp only [spec_l12Left.l2] at H
         by_cases c25 : x10_3 < (l1.length : Int)
         ·rw [if_pos c25] at H
          have c25b0 : decide (x10_3 < (l1.length : Int)) = true := decide_eq_true c25
          clear c25
          by_cases c26 : 0 ≤ x10_3
          ·rw [if_pos c26] at H
           have c26b0 : decide (0 ≤ x10_3) = true := decide_eq_true c26
           clear c26
           obtain ⟨t588, A27, H⟩ := oH H
           by_cases c28 : t588 = true
           ·subst c28
            replace H := iT H
            have HC29 := aM H
            clear H
            have p586 : 0 ≤ (x10_3 : Int) := zA
            have q586 : x10_3 < (l1.length : Int) := zA
            obtain ⟨ad586, A586_0, c586_0, e586, hx586_0, hx586_1, hx586_2, hx586_3, hx586_4, hl586_0, hi586_0⟩ := at_T28 HR1.out x10_3 p586 q586
            cases e586
            replace hx586_0 := hX HB hx586_0
            replace hx586_1 := hX HB hx586_1
            replace hx586_2 := hX HB hx586_2
            replace hx586_3 := hX HB hx586_3
            replace hx586_4 := hX HB hx586_4
            have HR586_0 := aM hi586_0
            have HC586_0 := aM hl586_0
            clear hi586_0 hl586_0
            replace p586 := eq_true p586
            replace q586 := eq_true q586
            go_upto_if 62 with (first | ((with_reducible refine gate_dst (N := 11) rfl ?_); (try (refine gate_guard (by rfl) ?_; dsimp only)); refine box_event ?hg (N := 11) ?hd (cs := #[.slice none 0 0, .int .i64 0, .int .i64 0, .int .i64 0, .int .i64 0]) (t := 28) ?hr ?_; (case hd => rfl); (case hg => rfl); (case hr => first | (go_simp; done) | (go_simp; rfl)); intro gb587 hg w30 hbox hb; have n0_ := aM (Kd.S_below (by (with_reducible repeat (first | apply Kd.S_alloc | apply Kd.S_drewN | apply Kd.S_drew)); exact HO_6.out) hb); have n1_ := cB BK572 hb; have n2_ := cH HB hb; have n3_ := aM hbox; have n4_ := aM (zG hg : w.heap.size ≤ gb587); have n5_ := aM (zG hg : w.heap.size ≤ gb587); have n6_ := aM ((zL hg BK572)); have n7_ := aM ((zM hg BK572)); clear HO_6; clear BK572; clear HB; have HO_6 := n0_; have BK572 := n1_; have HB := n2_; have BK587 := n3_; have GW587 := n4_; have GE587 := n5_; have NB572_587 := n6_; have NB587_572 := n7_; clear n0_ n1_ n2_ n3_ n4_ n5_ n6_ n7_; clear hb hbox hg; have hnb31 := NB587_572.out; have hnc31 := NB572_587.out; have hcz32_0 : w30.cell? ⟨gb587, 0, none⟩ = some (.slice none 0 0) := (kC BK587.out 0).trans rfl; have hcz32_1 : w30.cell? ⟨gb587, 1, none⟩ = some (.int .i64 0) := (kC BK587.out 1).trans rfl; have hcz32_2 : w30.cell? ⟨gb587, 2, none⟩ = some (.int .i64 0) := (kC BK587.out 2).trans rfl; have hcz32_3 : w30.cell? ⟨gb587, 3, none⟩ = some (.int .i64 0) := (kC BK587.out 3).trans rfl; have hcz32_4 : w30.cell? ⟨gb587, 4, none⟩ = some (.int .i64 0) := (kC BK587.out 4).trans rfl; have hfz32_0 := blk_frozen BK587.out 0; have hfz32_1 := blk_frozen BK587.out 1; have hfz32_2 := blk_frozen BK587.out 2; have hfz32_3 := blk_frozen BK587.out 3; have hfz32_4 := blk_frozen BK587.out 4; have hcz33_0 : w30.cell? ⟨gb572, 0, none⟩ = some (.int .i64 a0_0) := (kC BK572.out 0).trans rfl; have hcz33_1 : w30.cell? ⟨gb572, 1, none⟩ = some (.int .i64 a0_1) := (kC BK572.out 1).trans rfl; have hcz33_2 : w30.cell? ⟨gb572, 2, none⟩ = some (.int .i64 a0_2) := (kC BK572.out 2).trans rfl; have hcz33_3 : w30.cell? ⟨gb572, 3, none⟩ = some (.int .i64 a0_3) := (kC BK572.out 3).trans rfl; have hcz33_4 : w30.cell? ⟨gb572, 4, none⟩ = some (.slice A0_4 l0_4.length c0_4) := (kC BK572.out 4).trans rfl; have hfz33_0 := blk_frozen BK572.out 0; have hfz33_1 := blk_frozen BK572.out 1; have hfz33_2 := blk_frozen BK572.out 2; have hfz33_3 := blk_frozen BK572.out 3; have hfz33_4 := blk_frozen BK572.out 4) | ((with_reducible refine gate_callee (f := 40) rfl ?_); refine goesL_ (some 56) rfl rfl Try.func40 (by kernel_rfl) rfl #[.agg #[.int .i64 a0_0, .int .i64 a0_1, .int .i64 a0_2, .int .i64 a0_3, .slice A0_4 l0_4.length c0_4], .agg #[.slice A586_0 ((rd_T28 l1 x10_3).f0).length c586_0, .int .i64 ((rd_T28 l1 x10_3).f1), .int .i64 ((rd_T28 l1 x10_3).f2), .int .i64 ((rd_T28 l1 x10_3).f3), .int .i64 ((rd_T28 l1 x10_3).f4)]] rfl (by (try simp only [List.map_toArray, List.map_cons, List.map_nil]); first | done | rfl | (simp only [List.length_drop, List.length_take]; rfl)) ?_; (with_reducible refine (spec_ScanOk.calls k3 a0_0 a0_1 a0_2 a0_3 _ _ l0_4 _ _ ((rd_T28 l1 x10_3).f0) ((rd_T28 l1 x10_3).f1) ((rd_T28 l1 x10_3).f2) ((rd_T28 l1 x10_3).f3) ((rd_T28 l1 x10_3).f4) true _ ?side1 ?side2 ?side3 ?side4 A27.out).mono ?_); (case side1 => exact Kd.C_below HR0_4.out zH); (case side2 => exact HC0_4.out); (case side3 => exact Kd.C_below HR586_0.out zH); (case side4 => exact HC586_0.out); rintro e w34 ⟨rfl, hb⟩; refine ⟨_, rfl, ?_⟩; have n0_ := aM (Kd.S_below (by (with_reducible repeat (first | apply Kd.S_alloc | apply Kd.S_drewN | apply Kd.S_drew)); exact (Kd.S_mono (Kd.S_far (p := ⟨gb587, 4, none⟩) (Kd.S_far (p := ⟨gb587, 3, none⟩) (Kd.S_far (p := ⟨gb587, 2, none⟩) (Kd.S_far (p := ⟨gb587, 1, none⟩) (Kd.S_far (p := ⟨gb587, 0, none⟩) (Kd.S_types HO_6.out BK587.out (by decide)) (fun _ hk => hk.2) (.slice A586_0 ((rd_T28 l1 x10_3).f0).length c586_0)) (fun _ hk => hk.2) (.int .i64 ((rd_T28 l1 x10_3).f1))) (fun _ hk => hk.2) (.int .i64 ((rd_T28 l1 x10_3).f2))) (fun _ hk => hk.2) (.int .i64 ((rd_T28 l1 x10_3).f3))) (fun _ hk => hk.2) (.int .i64 ((rd_T28 l1 x10_3).f4))) (fun _ h_ => h_.1))) hb); have n1_ := aM (blk_below (g := gb572) (o := .cells #[.int .i64 a0_0, .int .i64 a0_1, .int .i64 a0_2, .int .i64 a0_3, .slice A0_4 l0_4.length c0_4] 45 (0, 0)) (by (with_reducible repeat (first | apply kN | apply kD | apply kA)); refine blk_far ?_ NB572_587.out _; (with_reducible repeat (first | apply kN | apply kD | apply kA)); refine blk_far ?_ NB572_587.out _; (with_reducible repeat (first | apply kN | apply kD | apply kA)); refine blk_far ?_ NB572_587.out _; (with_reducible repeat (first | apply kN | apply kD | apply kA)); refine blk_far ?_ NB572_587.out _; (with_reducible repeat (first | apply kN | apply kD | apply kA)); refine blk_far ?_ NB572_587.out _; (with_reducible repeat (first | apply kN | apply kD | apply kA)); exact BK572.out) hb); have n2_ := aM (blk_below (g := gb587) (o := .cells #[.slice A586_0 ((rd_T28 l1 x10_3).f0).length c586_0, .int .i64 ((rd_T28 l1 x10_3).f1), .int .i64 ((rd_T28 l1 x10_3).f2), .int .i64 ((rd_T28 l1 x10_3).f3), .int .i64 ((rd_T28 l1 x10_3).f4)] 28 (0, 0)) (by (with_reducible repeat (first | apply kN | apply kD | apply kA)); refine blk_put (cs := #[.slice A586_0 ((rd_T28 l1 x10_3).f0).length c586_0, .int .i64 ((rd_T28 l1 x10_3).f1), .int .i64 ((rd_T28 l1 x10_3).f2), .int .i64 ((rd_T28 l1 x10_3).f3), .int .i64 0]) ?_ 4 _ rfl; (with_reducible repeat (first | apply kN | apply kD | apply kA)); refine blk_put (cs := #[.slice A586_0 ((rd_T28 l1 x10_3).f0).length c586_0, .int .i64 ((rd_T28 l1 x10_3).f1), .int .i64 ((rd_T28 l1 x10_3).f2), .int .i64 0, .int .i64 0]) ?_ 3 _ rfl; (with_reducible repeat (first | apply kN | apply kD | apply kA)); refine blk_put (cs := #[.slice A586_0 ((rd_T28 l1 x10_3).f0).length c586_0, .int .i64 ((rd_T28 l1 x10_3).f1), .int .i64 0, .int .i64 0, .int .i64 0]) ?_ 2 _ rfl; (with_reducible repeat (first | apply kN | apply kD | apply kA)); refine blk_put (cs := #[.slice A586_0 ((rd_T28 l1 x10_3).f0).length c586_0, .int .i64 0, .int .i64 0, .int .i64 0, .int .i64 0]) ?_ 1 _ rfl; (with_reducible repeat (first | apply kN | apply kD | apply kA)); refine blk_put (cs := #[.slice none 0 0, .int .i64 0, .int .i64 0, .int .i64 0, .int .i64 0]) ?_ 0 _ rfl; (with_reducible repeat (first | apply kN | apply kD | apply kA)); exact BK587.out) hb); have n3_ := cH HB hb; clear HO_6; clear BK572; clear BK587; clear HB; have HO_6 := n0_; have BK572 := n1_; have BK587 := n2_; have HB := n3_; clear n0_ n1_ n2_ n3_; (try clear hb); (try clear hb2); (try clear hk); (try clear hi); have hcz35_0 : w34.cell? ⟨gb587, 0, none⟩ = some (.slice A586_0 ((rd_T28 l1 x10_3).f0).length c586_0) := (kC BK587.out 0).trans rfl; have hcz35_1 : w34.cell? ⟨gb587, 1, none⟩ = some (.int .i64 ((rd_T28 l1 x10_3).f1)) := (kC BK587.out 1).trans rfl; have hcz35_2 : w34.cell? ⟨gb587, 2, none⟩ = some (.int .i64 ((rd_T28 l1 x10_3).f2)) := (kC BK587.out 2).trans rfl; have hcz35_3 : w34.cell? ⟨gb587, 3, none⟩ = some (.int .i64 ((rd_T28 l1 x10_3).f3)) := (kC BK587.out 3).trans rfl; have hcz35_4 : w34.cell? ⟨gb587, 4, none⟩ = some (.int .i64 ((rd_T28 l1 x10_3).f4)) := (kC BK587.out 4).trans rfl; have hfz35_0 := blk_frozen BK587.out 0; have hfz35_1 := blk_frozen BK587.out 1; have hfz35_2 := blk_frozen BK587.out 2; have hfz35_3 := blk_frozen BK587.out 3; have hfz35_4 := blk_frozen BK587.out 4))
            (try simp only [Act.put, List.setIfInBounds_toArray, List.set_cons_zero, List.set_cons_succ])
            go_cut [12] (fun v12 wc => ∃ (kq : Nat) (x12_28 : Int), v12 = .int .i64 x12_28 ∧ Aside0 (spec_l12Left.j4 kq l1 x6_3 x10_3 x12_28 a0_0 a0_1 a0_2 a0_3 l0_4 ((rd_T28 l1 x10_3).f0) ((rd_T28 l1 x10_3).f1) ((rd_T28 l1 x10_3).f2) ((rd_T28 l1 x10_3).f3) ((rd_T28 l1 x10_3).f4) = some (r1, r2)) ∧ Aside0 (kq ≤ k3) ∧ Aside0 (Kd.S (Kd.slice 3 (Kd.int .i64)) 22 wc w.heap.size (fun _ => True) u6 x6_3) ∧ Aside0 (wc.heap[gb572]? = some (.cells #[.int .i64 a0_0, .int .i64 a0_1, .int .i64 a0_2, .int .i64 a0_3, (.slice A0_4 l0_4.length c0_4)] 45 (0, 0))) ∧ Aside0 (wc.heap[gb587]? = some (.cells #[(.slice A586_0 ((rd_T28 l1 x10_3).f0).length c586_0), .int .i64 ((rd_T28 l1 x10_3).f1), .int .i64 ((rd_T28 l1 x10_3).f2), .int .i64 ((rd_T28 l1 x10_3).f3), .int .i64 ((rd_T28 l1 x10_3).f4)] 28 (0, 0))) ∧ Aside0 (Below w.heap.size w wc))
            case first =>
             have H := HC29.out
             clear HC29
             by_cases c36 : ((rd_T28 l1 x10_3).f3) = 0
             ·rw [if_pos c36] at H
              have c36b0 : (((rd_T28 l1 x10_3).f3) == 0) = true := beq_iff_eq.mpr c36
              have c36b1 : (((rd_T28 l1 x10_3).f3) != 0) = false := bne_eq_false_iff_eq.mpr c36
              clear c36
              (first | rw [c36b0] | (simp only [i64_w, i32_w]; rw [c36b0]) | skip)
              have H' := aM H
              clear H
              go_wp2
              go_meet
              case rel => exact ⟨_, ((-1)), zS, H', ⟨by have := HJ2.out; have := HK2.out; have := HK3.out; first | omega | exact Nat.le_refl _⟩, ⟨by (with_reducible repeat (first | apply Kd.S_alloc | apply Kd.S_drewN | apply Kd.S_drew)); exact HO_6.out⟩, ⟨zK BK572⟩, ⟨zK BK587⟩, ⟨zH⟩⟩
             ·rw [if_neg c36] at H
              have c36b0 : (((rd_T28 l1 x10_3).f3) == 0) = false := beq_eq_false_iff_ne.mpr c36
              have c36b1 : (((rd_T28 l1 x10_3).f3) != 0) = true := bne_iff_ne.mpr c36
              (first | rw [c36b0] | (simp only [i64_w, i32_w]; rw [c36b0]) | skip)
              have H' := aM H
              clear H
              go_wp2
              go_meet
              case rel => exact ⟨_, ((rd_T28 l1 x10_3).f3), zS, H', ⟨by have := HJ2.out; have := HK2.out; have := HK3.out; first | omega | exact Nat.le_refl _⟩, ⟨by (with_reducible repeat (first | apply Kd.S_alloc | apply Kd.S_drewN | apply Kd.S_drew)); exact HO_6.out⟩, ⟨zK BK572⟩, ⟨zK BK587⟩, ⟨zH⟩⟩
            case rest =>
             clear HC29
             (try clear c25b0); (try clear c26b0); (try clear c28); (try clear hcz32_0); (try clear hcz32_1); (try clear hcz32_2); (try clear hcz32_3); (try clear hcz32_4); (try clear hcz33_0); (try clear hcz33_1); (try clear hcz33_2); (try clear hcz33_3); (try clear hcz33_4); (try clear hcz35_0); (try clear hcz35_1); (try clear hcz35_2); (try clear hcz35_3); (try clear hcz35_4); (try clear hfz32_0); (try clear hfz32_1); (try clear hfz32_2); (try clear hfz32_3); (try clear hfz32_4); (try clear hfz33_0); (try clear hfz33_1); (try clear hfz33_2); (try clear hfz33_3); (try clear hfz33_4); (try clear hfz35_0); (try clear hfz35_1); (try clear hfz35_2); (try clear hfz35_3); (try clear hfz35_4); (try clear hx586_0); (try clear hx586_1); (try clear hx586_2); (try clear hx586_3); (try clear hx586_4); (try clear p586); (try clear q586)
             obtain ⟨kq, x12_28, rfl, HA, HJ28, HO_6, BK572, BK587, HB⟩ := hcut
             cases kq with
             | zero => exact absurd HA.out (by simp [spec_l12Left.j4])
             | succ kj28 =>
              have H := HA.out
              clear HA
              simp only [spec_l12Left.j4] at H
              have H' := aM H
              clear H
              go_wp2
              go_loopg [13] kj28 (fun kq v13 w' => ∃ (x6_5 : List (List Int)) (x13_5 : Int), v13 = .int .i64 x13_5 ∧ Aside0 (spec_l12Left.l3 kq l1 x6_5 x10_3 x12_28 x13_5 a0_0 a0_1 a0_2 a0_3 l0_4 ((rd_T28 l1 x10_3).f0) ((rd_T28 l1 x10_3).f1) ((rd_T28 l1 x10_3).f2) ((rd_T28 l1 x10_3).f3) ((rd_T28 l1 x10_3).f4) = some (r1, r2)) ∧ Aside0 (kq ≤ kj28) ∧ Aside0 (Kd.S (Kd.slice 3 (Kd.int .i64)) 22 w' w.heap.size (fun _ => True) u6 x6_5) ∧ Aside0 (w'.heap[gb572]? = some (.cells #[.int .i64 a0_0, .int .i64 a0_1, .int .i64 a0_2, .int .i64 a0_3, (.slice A0_4 l0_4.length c0_4)] 45 (0, 0))) ∧ Aside0 (w'.heap[gb587]? = some (.cells #[(.slice A586_0 ((rd_T28 l1 x10_3).f0).length c586_0), .int .i64 ((rd_T28 l1 x10_3).f1), .int .i64 ((rd_T28 l1 x10_3).f2), .int .i64 ((rd_T28 l1 x10_3).f3), .int .i64 ((rd_T28 l1 x10_3).f4)] 28 (0, 0))) ∧ Aside0 (Below w.heap.size w w'))
              case atStart => exact ⟨(x6_3), (0), zS, H', ⟨Nat.le_refl _⟩, ⟨by (with_reducible repeat (first | apply Kd.S_alloc | apply Kd.S_drewN | apply Kd.S_drew)); exact HO_6.out⟩, ⟨zK BK572⟩, ⟨zK BK587⟩, ⟨zH⟩⟩
              case round =>
               clear H'
               obtain ⟨x6_5, x13_5, rfl, HA, HK5, HO_6, BK572, BK587, HB⟩ := hrel
               cases gk with
               | zero => exact absurd HA.out (by simp [spec_l12Left.l3])
               | succ k5 =>
                have H := HA.out
                clear HA
                simp only [spec_l12Left.l3] at H
                by_cases c37 : x13_5 < (((rd_T28 l1 x10_3).f0).length : Int)
                ·rw [if_pos c37] at H
                 have c37b0 : decide (x13_5 < (((rd_T28 l1 x10_3).f0).length : Int)) = true := decide_eq_true c37
                 clear c37
                 have H' := aM H
                 clear H
                 have hnb38 := NB587_572.out
                 have hnc38 := NB572_587.out
                 obtain ⟨hcz39_0, hcz39_1, hcz39_2, hcz39_3, hcz39_4⟩ := kk5 BK587
                 obtain ⟨hfz39_0, hfz39_1, hfz39_2, hfz39_3, hfz39_4⟩ := kg5 BK587
                 go_wp2
                 go_loopg [14] k5 (fun kq v14 w' => ∃ (x6_6 : List (List Int)) (x14_6 : Int), v14 = .int .i64 x14_6 ∧ Aside0 (spec_l12Left.l4 kq l1 x6_6 x10_3 x12_28 x13_5 x14_6 a0_0 a0_1 a0_2 a0_3 l0_4 ((rd_T28 l1 x10_3).f0) ((rd_T28 l1 x10_3).f1) ((rd_T28 l1 x10_3).f2) ((rd_T28 l1 x10_3).f3) ((rd_T28 l1 x10_3).f4) = some (r1, r2)) ∧ Aside0 (kq ≤ k5) ∧ Aside0 (Kd.S (Kd.slice 3 (Kd.int .i64)) 22 w' w.heap.size (fun _ => True) u6 x6_6) ∧ Aside0 (w'.heap[gb572]? = some (.cells #[.int .i64 a0_0, .int .i64 a0_1, .int .i64 a0_2, .int .i64 a0_3, (.slice A0_4 l0_4.length c0_4)] 45 (0, 0))) ∧ Aside0 (w'.heap[gb587]? = some (.cells #[(.slice A586_0 ((rd_T28 l1 x10_3).f0).length c586_0), .int .i64 ((rd_T28 l1 x10_3).f1), .int .i64 ((rd_T28 l1 x10_3).f2), .int .i64 ((rd_T28 l1 x10_3).f3), .int .i64 ((rd_T28 l1 x10_3).f4)] 28 (0, 0))) ∧ Aside0 (Below w.heap.size w w'))
                 case atStart => exact ⟨(x6_5), (((rd_T28 l1 x10_3).f1)), zS, H', ⟨Nat.le_refl _⟩, ⟨by (with_reducible repeat (first | apply Kd.S_alloc | apply Kd.S_drewN | apply Kd.S_drew)); exact HO_6.out⟩, ⟨zK BK572⟩, ⟨zK BK587⟩, ⟨zH⟩⟩
                 case round =>
                  clear H'
                  (try clear c37b0); (try clear hcz39_0); (try clear hcz39_1); (try clear hcz39_2); (try clear hcz39_3); (try clear hcz39_4); (try clear hfz39_0); (try clear hfz39_1); (try clear hfz39_2); (try clear hfz39_3); (try clear hfz39_4)
                  obtain ⟨x6_6, x14_6, rfl, HA, HK6, HO_6, BK572, BK587, HB⟩ := hrel
                  cases gk with
                  | zero => exact absurd HA.out (by simp [spec_l12Left.l4])
                  | succ k6 =>
                   have H := HA.out
                   clear HA
                   simp only [spec_l12Left.l4] at H
                   by_cases c40 : x14_6 ≤ ((rd_T28 l1 x10_3).f2)
                   ·rw [if_pos c40] at H
                    have c40b0 : decide (x14_6 ≤ ((rd_T28 l1 x10_3).f2)) = true := decide_eq_true c40
                    clear c40
                    by_cases c41 : 0 ≤ x13_5
                    ·rw [if_pos c41] at H
                     have c41b0 : decide (0 ≤ x13_5) = true := decide_eq_true c41
                     clear c41
                     by_cases c42 : x13_5 < (((rd_T28 l1 x10_3).f0).length : Int)
                     ·rw [if_pos c42] at H
                      have c42b0 : decide (x13_5 < (((rd_T28 l1 x10_3).f0).length : Int)) = true := decide_eq_true c42
                      clear c42
                      by_cases c43 : 0 ≤ (rd ((rd_T28 l1 x10_3).f0) x13_5)
                      ·rw [if_pos c43] at H
                       have c43b0 : decide (0 ≤ (rd ((rd_T28 l1 x10_3).f0) x13_5)) = true := decide_eq_true c43
                       clear c43
                       by_cases c44 : (rd ((rd_T28 l1 x10_3).f0) x13_5) < (x6_6.length : Int)
                       ·rw [if_pos c44] at H
                        have c44b0 : decide ((rd ((rd_T28 l1 x10_3).f0) x13_5) < (x6_6.length : Int)) = true := decide_eq_true c44
                        clear c44
                        by_cases c45 : 0 ≤ x14_6
                        ·rw [if_pos c45] at H
                         have c45b0 : decide (0 ≤ x14_6) = true := decide_eq_true c45
                         clear c45
                         by_cases c46 : x14_6 < ((rd_L3 x6_6 (rd ((rd_T28 l1 x10_3).f0) x13_5)).length : Int)
                         ·rw [if_pos c46] at H
                          have c46b0 : decide (x14_6 < ((rd_L3 x6_6 (rd ((rd_T28 l1 x10_3).f0) x13_5)).length : Int)) = true := decide_eq_true c46
                          clear c46
                          by_cases c47 : (rd (rd_L3 x6_6 (rd ((rd_T28 l1 x10_3).f0) x13_5)) x14_6) = x12_28
                          ·rw [if_pos c47] at H
                           have c47b0 : ((rd (rd_L3 x6_6 (rd ((rd_T28 l1 x10_3).f0) x13_5)) x14_6) == x12_28) = true := beq_iff_eq.mpr c47
                           have c47b1 : ((rd (rd_L3 x6_6 (rd ((rd_T28 l1 x10_3).f0) x13_5)) x14_6) != x12_28) = false := bne_eq_false_iff_eq.mpr c47
                           clear c47
                           obtain ⟨y597, hy597⟩ : ∃ y_ : List Int, y_ = ((rd_L3 x6_6 (rd ((rd_T28 l1 x10_3).f0) x13_5)).set (x14_6 : Int).toNat ((rd_T28 l1 x10_3).f4)) := ⟨_, rfl⟩
                           replace H : (spec_l12Left.l4 k6 l1 (x6_6.set ((rd ((rd_T28 l1 x10_3).f0) x13_5) : Int).toNat y597) x10_3 x12_28 x13_5 (wrap64 (x14_6 + 1)) a0_0 a0_1 a0_2 a0_3 l0_4 ((rd_T28 l1 x10_3).f0) ((rd_T28 l1 x10_3).f1) ((rd_T28 l1 x10_3).f2) ((rd_T28 l1 x10_3).f3) ((rd_T28 l1 x10_3).f4)) = some (r1, r2) := by first | (rw [hy597]; with_reducible exact H) | (have H2_ := (Option.bind_some _ _).symm.trans H; rw [hy597]; with_reducible exact H2_) | (have H2_ := (Option.bind_some _ _).symm.trans H; with_reducible exact H2_) | with_reducible exact H | (rw [hy597]; exact H) | exact H
                           have Ny597 := aM hy597
                           clear hy597
                           obtain ⟨y599, hy599⟩ : ∃ y_ : List (List Int), y_ = (x6_6.set ((rd ((rd_T28 l1 x10_3).f0) x13_5) : Int).toNat y597) := ⟨_, rfl⟩
                           replace H : (spec_l12Left.l4 k6 l1 y599 x10_3 x12_28 x13_5 (wrap64 (x14_6 + 1)) a0_0 a0_1 a0_2 a0_3 l0_4 ((rd_T28 l1 x10_3).f0) ((rd_T28 l1 x10_3).f1) ((rd_T28 l1 x10_3).f2) ((rd_T28 l1 x10_3).f3) ((rd_T28 l1 x10_3).f4)) = some (r1, r2) := by first | (rw [hy599]; with_reducible exact H) | (have H2_ := (Option.bind_some _ _).symm.trans H; rw [hy599]; with_reducible exact H2_) | (have H2_ := (Option.bind_some _ _).symm.trans H; with_reducible exact H2_) | with_reducible exact H | (rw [hy599]; exact H) | exact H
                           have Ny599 := aM hy599
                           clear hy599
                           have H' := aM H
                           clear H
                           have hnb49 := NB587_572.out
                           have hnc49 := NB572_587.out
                           obtain ⟨hcz50_0, hcz50_1, hcz50_2, hcz50_3, hcz50_4⟩ := kk5 BK587
                           obtain ⟨hfz50_0, hfz50_1, hfz50_2, hfz50_3, hfz50_4⟩ := kg5 BK587
                           have p592 : 0 ≤ (x13_5 : Int) := zA
                           have q592 : x13_5 < (((rd_T28 l1 x10_3).f0).length : Int) := zA
                           obtain ⟨ad592, e592, hx592_0⟩ := Kd.at_int HR586_0.out x13_5 p592 q592
                           cases e592
                           replace hx592_0 := hX HB hx592_0
                           replace p592 := eq_true p592
                           replace q592 := eq_true q592
                           obtain ⟨Ao51, co51, eo51⟩ := Kd.S_slice HO_6.out
                           subst eo51
                           have p593 : 0 ≤ ((rd ((rd_T28 l1 x10_3).f0) x13_5) : Int) := zA
                           have q593 : (rd ((rd_T28 l1 x10_3).f0) x13_5) < (x6_6.length : Int) := zA
                           obtain ⟨ad593, A593_0, c593_0, e593, hx593_0, hl593_0, hi593_0⟩ := at_L3 (Kd.S_reads' HO_6.out).2.2 (rd ((rd_T28 l1 x10_3).f0) x13_5) p593 q593
                           cases e593
                           obtain ⟨ce593, hce593, hMe593, hcc593⟩ := Kd.S_get HO_6.out [] (rd ((rd_T28 l1 x10_3).f0) x13_5) p593 (by first | exact q593 | exact zA | (have e_ := (Kd.S_reads' HO_6.out).1; omega))
                           obtain ⟨ve593_0, rfl, ge593_0⟩ := hMe593
                           have hv593_0 := hcc593 0 _ rfl
                           rw [Nat.add_zero, show ((Kd.slice 3 (Kd.int .i64))).sz = 1 from rfl, Nat.mul_one] at hv593_0
                           replace hv593_0 := Option.some.inj (hv593_0.symm.trans hx593_0)
                           rw [hv593_0] at ge593_0
                           have HL593_0 := aM (show Kd.R (Kd.int .i64) 3 _ _ _ _ (rd_L3 x6_6 (rd ((rd_T28 l1 x10_3).f0) x13_5)) from ge593_0)
                           clear hv593_0 ge593_0
                           have HX593_0 := aM hx593_0
                           clear hcc593 hce593
                           have HR593_0 := aM hi593_0
                           have HC593_0 := aM hl593_0
                           clear hi593_0 hl593_0
                           replace p593 := eq_true p593
                           replace q593 := eq_true q593
                           have p594 : 0 ≤ (x14_6 : Int) := zA
                           have q594 : x14_6 < ((rd_L3 x6_6 (rd ((rd_T28 l1 x10_3).f0) x13_5)).length : Int) := zA
                           obtain ⟨ad594, e594, hx594_0⟩ := Kd.at_int (by repeat (first | (with_reducible exact HR593_0.out) | (with_reducible first | refine Kd.C_alloc ?_ _ | refine Kd.C_drewN ?_ _ | refine Kd.C_drew ?_) | exact HR593_0.out)) x14_6 p594 q594
                           cases e594
                           replace p594 := eq_true p594
                           replace q594 := eq_true q594
                           try go_wp2
                           have n0_ := aM (Kd.S_drew HO_6.out)
                           have n1_ := aM (Kd.R_drew HL593_0.out)
                           have n2_ := aM (kD BK572.out)
                           have n3_ := aM (kD BK587.out)
                           have n4_ := aM (Kd.C_drew HR593_0.out)
                           have n5_ := aM (b1 HB.out)
                           clear HO_6
                           clear HL593_0
                           clear BK572
                           clear BK587
                           clear HR593_0
                           clear HB
                           have HO_6 := n0_
                           have HL593_0 := n1_
                           have BK572 := n2_
                           have BK587 := n3_
                           have HR593_0 := n4_
                           have HB := n5_
                           clear n0_ n1_ n2_ n3_ n4_ n5_
                           have p595 : 0 ≤ (x13_5 : Int) := zA
                           have q595 : x13_5 < (((rd_T28 l1 x10_3).f0).length : Int) := zA
                           obtain ⟨ad595, e595, hx595_0⟩ := Kd.at_int HR586_0.out x13_5 p595 q595
                           have hw595_0 := hx595_0
                           obtain rfl : ad592 = ad595 := (by injection e595)
                           replace hx595_0 := hX HB hx595_0
                           replace p595 := eq_true p595
                           replace q595 := eq_true q595
                           have p596 : 0 ≤ ((rd ((rd_T28 l1 x10_3).f0) x13_5) : Int) := zA
                           have q596 : (rd ((rd_T28 l1 x10_3).f0) x13_5) < (x6_6.length : Int) := zA
                           obtain ⟨ad596, A596_0, c596_0, e596, hx596_0, hl596_0, hi596_0⟩ := at_L3 (Kd.S_reads' HO_6.out).2.2 (rd ((rd_T28 l1 x10_3).f0) x13_5) p596 q596
                           obtain rfl : ad593 = ad596 := (by injection e596)
                           obtain ⟨ce596, hce596, hMe596, hcc596⟩ := Kd.S_get HO_6.out [] (rd ((rd_T28 l1 x10_3).f0) x13_5) p596 (by first | exact q596 | exact zA | (have e_ := (Kd.S_reads' HO_6.out).1; omega))
                           obtain ⟨ve596_0, rfl, ge596_0⟩ := hMe596
                           have hv596_0 := hcc596 0 _ rfl
                           rw [Nat.add_zero, show ((Kd.slice 3 (Kd.int .i64))).sz = 1 from rfl, Nat.mul_one] at hv596_0
                           replace hv596_0 := Option.some.inj (hv596_0.symm.trans hx596_0)
                           rw [hv596_0] at ge596_0
                           have HL596_0 := aM (show Kd.R (Kd.int .i64) 3 _ _ _ _ (rd_L3 x6_6 (rd ((rd_T28 l1 x10_3).f0) x13_5)) from ge596_0)
                           clear hv596_0 ge596_0
                           have HX596_0 := aM hx596_0
                           clear hcc596 hce596
                           have HR596_0 := aM hi596_0
                           have HC596_0 := aM hl596_0
                           clear hi596_0 hl596_0
                           replace p596 := eq_true p596
                           replace q596 := eq_true q596
                           have p48 : 0 ≤ (x14_6 : Int) := zA
                           have q48 : (x14_6 : Int) < (((rd_L3 x6_6 (rd ((rd_T28 l1 x10_3).f0) x13_5)).length : Int) : Int) := zA
                           obtain ⟨go48, co48, eo48, gb48, gl48, cl48, HG48⟩ := Kd.R_form HL596_0.out (by omega)
                           (first | cases eo48 | (injection eo48 with ea_ en_ ec_; (first | subst ea_ | (injection ea_ with ea_; subst ea_)); subst ec_; clear en_))
                           have GB48 := aM gb48
                           have GG48 := aM HG48
                           clear gb48 gl48 HG48
                           obtain ⟨hx48_0, hf48_0⟩ := Kd.R_celln 0 HL596_0.out (x14_6 : Int) p48 q48
                           replace p48 := eq_true p48
                           replace q48 := eq_true q48
                           have hq53 : ((rd ((rd_T28 l1 x10_3).f0) x13_5) : Int) < (x6_6.length : Int) := (by have h_ : ((rd ((rd_T28 l1 x10_3).f0) x13_5) : Int) < ((x6_6.length : Int) : Int) := zA; first | exact h_ | (have e_ := (Kd.S_reads' HO_6.out).1; omega) | simpa only [List.length_set, List.length_set] using h_)
                           obtain ⟨oki53, ce53, hcl53, hM53, hcc53, hok53, hbk53⟩ := Kd.S_borrow HO_6.out [] ((rd ((rd_T28 l1 x10_3).f0) x13_5) : Int) (zA) hq53
                           obtain ⟨ve53_0, rfl, ge53_0⟩ := hM53
                           have hv53 := hcc53 0 _ rfl
                           rw [Nat.add_zero, show ((Kd.slice 3 (Kd.int .i64))).sz = 1 from rfl, Nat.mul_one] at hv53
                           replace hv53 := Option.some.inj (hv53.symm.trans HX596_0.out)
                           subst hv53
                           clear hcc53 hcl53
                           replace ge53_0 := (show Kd.R (Kd.int .i64) 3 _ _ _ _ (rd_L3 x6_6 (rd ((rd_T28 l1 x10_3).f0) x13_5)) from ge53_0)
                           have HP53 := Kd.R_putg ge53_0 (x14_6 : Int) ((rd_T28 l1 x10_3).f4)
                           rw [← Ny597.out] at HP53
                           have HS53 := hbk53 HP53.2 (fun k_ e_ => by injection e_ with e_; subst e_; exact ge53_0.1 _ rfl) (x' := y597) (Kd.M_row HP53.1)
                           rw [← Ny599.out] at HS53
                           have HQ53 := aM HS53
                           clear HP53 HS53 hbk53 hok53
                           refine start_ (n := 13) (S := fun w' => w'.cell? ⟨gb587, 0, none⟩ = some (.slice (some ad592) ((rd_T28 l1 x10_3).f0).length c586_0) ∧ w'.cell? ⟨gb587, 1, none⟩ = some (.int .i64 ((rd_T28 l1 x10_3).f1)) ∧ w'.cell? ⟨gb587, 2, none⟩ = some (.int .i64 ((rd_T28 l1 x10_3).f2)) ∧ w'.cell? ⟨gb587, 3, none⟩ = some (.int .i64 ((rd_T28 l1 x10_3).f3)) ∧ w'.cell? ⟨gb587, 4, none⟩ = some (.int .i64 ((rd_T28 l1 x10_3).f4)) ∧ w'.cell? (ad592.add (x13_5).toNat) = some (.int .i64 (rd ((rd_T28 l1 x10_3).f0) x13_5)) ∧ w'.cell? (ad593.add ((rd ((rd_T28 l1 x10_3).f0) x13_5)).toNat) = some (.slice (some ⟨go48, 0, none⟩) (rd_L3 x6_6 (rd ((rd_T28 l1 x10_3).f0) x13_5)).length c596_0)) (ds := [12]) #[false, false, false, false, false, false, false, false, false, false, false, false, false] (by kernel_rfl) rfl rfl ⟨(kC BK587.out 0).trans rfl, (kC BK587.out 1).trans rfl, (kC BK587.out 2).trans rfl, (kC BK587.out 3).trans rfl, (kC BK587.out 4).trans rfl, ((HB.out.cell (wL w _ hw595_0)).trans hw595_0), hx596_0⟩ (fun hHeld => ?_); refine with_tabW spec_l12Left.tab30 spec_l12Left.bits30 (fun HT_ HW_ => ?_)
                           generalize wr.drew = w52 at HO_6 HL593_0 BK572 BK587 HR593_0 HB GG48 HL596_0 HQ53 HR596_0 HX596_0 hf48_0 hx48_0 hx595_0 hx596_0 hHeld ⊢
                           refine zP 0 (some 92) HT_ ?_
                           refine zP 1 (some 93) HT_ ?_
                           refine zP 3 (some 95) HT_ ?_
                           refine zP 8 (some 100) HT_ ?_
                           refine zP 9 (some 101) HT_ ?_
                           refine zT 2 (some 94) HT_ HW_ hHeld (hy := Or.inl ⟨by rfl, by rintro w' ⟨s0, s1, s2, s3, s4, s5, s6⟩; go_simp; with_reducible rfl⟩) (h := ?_)
                           refine zP 4 (some 96) HT_ ?_
                           refine zT 5 (some 97) HT_ HW_ hHeld (hy := Or.inl ⟨by rfl, by rintro w' ⟨s0, s1, s2, s3, s4, s5, s6⟩; go_simp; with_reducible rfl⟩) (h := ?_)
                           refine zP 6 (some 98) HT_ ?_
                           refine zT 7 (some 99) HT_ HW_ hHeld (hy := Or.inl ⟨by rfl, by rintro w' ⟨s0, s1, s2, s3, s4, s5, s6⟩; go_simp; with_reducible rfl⟩) (h := ?_)
                           refine zT 10 (some 102) HT_ HW_ hHeld (hy := Or.inl ⟨by rfl, by rintro w' ⟨s0, s1, s2, s3, s4, s5, s6⟩; go_simp; with_reducible rfl⟩) (h := ?_)
                           refine zP 11 (some 103) HT_ ?_
                           refine last_ (i := 12) (N := none) #[true, true, true, true, true, true, true, true, true, true, true, true, true] rfl rfl (one_of HT_.out (by kernel_rfl)) (by decide) (fun K hK => ?_)
                           refine skip_ (w1 := ?_) (by rfl) rfl ?_ ?_
                           rotate_left
                           ·go_simp
                            rfl
                           refine hK.out _ _ ?_
                           clear hK K
                           refine done_ (done_of HT_.out (by kernel_rfl)) ?_
                           try go_wp2
                           go_roundg k6
                           case measure => have := HJ2.out; have := HK2.out; have := HK3.out; have := HJ28.out; have := HK5.out; have := HK6.out; omega
                           case rel => exact ⟨(y599), (wrap64 (x14_6 + 1)), zS, H', ⟨by have := HJ2.out; have := HK2.out; have := HK3.out; have := HJ28.out; have := HK5.out; have := HK6.out; omega⟩, ⟨by (with_reducible repeat (first | apply Kd.S_alloc | apply Kd.S_drewN | apply Kd.S_drew)); exact HQ53.out⟩, ⟨by (with_reducible repeat (first | apply kN | apply kD | apply kA)); refine blk_far ?_ (by have h_ := Kd.R_ne HL596_0.out BK572.out (by decide); intro e_; exact h_ (by rw [e_]; rfl)) _; (with_reducible repeat (first | apply kN | apply kD | apply kA)); exact BK572.out⟩, ⟨by (with_reducible repeat (first | apply kN | apply kD | apply kA)); refine blk_far ?_ (by have h_ := Kd.R_ne HL596_0.out BK587.out (by decide); intro e_; exact h_ (by rw [e_]; rfl)) _; (with_reducible repeat (first | apply kN | apply kD | apply kA)); exact BK587.out⟩, ⟨by repeat (first | (with_reducible first | exact HB.out | apply bA | apply bN | apply b1 | refine bS ?_ GB48.out | refine bS ?_ GE572.out | refine bS ?_ GE587.out) | exact HB.out)⟩⟩
                          ·rw [if_neg c47] at H
                           have c47b0 : ((rd (rd_L3 x6_6 (rd ((rd_T28 l1 x10_3).f0) x13_5)) x14_6) == x12_28) = false := beq_eq_false_iff_ne.mpr c47
                           have c47b1 : ((rd (rd_L3 x6_6 (rd ((rd_T28 l1 x10_3).f0) x13_5)) x14_6) != x12_28) = true := bne_iff_ne.mpr c47
                           obtain ⟨y600, hy600⟩ : ∃ y_ : List (List Int), y_ = (([] : List (List Int))) := ⟨_, rfl⟩
                           replace H : (some (y600, false)) = some (r1, r2) := by first | (rw [hy600]; with_reducible exact H) | (have H2_ := (Option.bind_some _ _).symm.trans H; rw [hy600]; with_reducible exact H2_) | (have H2_ := (Option.bind_some _ _).symm.trans H; with_reducible exact H2_) | with_reducible exact H | (rw [hy600]; exact H) | exact H
                           have Ny600 := aM hy600
                           clear hy600
                           simp only [Option.some.injEq, Prod.mk.injEq] at H
                           obtain ⟨rfl, rfl⟩ := H
                           have hnb55 := NB587_572.out
                           have hnc55 := NB572_587.out
                           obtain ⟨hcz56_0, hcz56_1, hcz56_2, hcz56_3, hcz56_4⟩ := kk5 BK587
                           obtain ⟨hfz56_0, hfz56_1, hfz56_2, hfz56_3, hfz56_4⟩ := kg5 BK587
                           have p592 : 0 ≤ (x13_5 : Int) := zA
                           have q592 : x13_5 < (((rd_T28 l1 x10_3).f0).length : Int) := zA
                           obtain ⟨ad592, e592, hx592_0⟩ := Kd.at_int HR586_0.out x13_5 p592 q592
                           cases e592
                           replace hx592_0 := hX HB hx592_0
                           replace p592 := eq_true p592
                           replace q592 := eq_true q592
                           obtain ⟨Ao57, co57, eo57⟩ := Kd.S_slice HO_6.out
                           subst eo57
                           have p593 : 0 ≤ ((rd ((rd_T28 l1 x10_3).f0) x13_5) : Int) := zA
                           have q593 : (rd ((rd_T28 l1 x10_3).f0) x13_5) < (x6_6.length : Int) := zA
                           obtain ⟨ad593, A593_0, c593_0, e593, hx593_0, hl593_0, hi593_0⟩ := at_L3 (Kd.S_reads' HO_6.out).2.2 (rd ((rd_T28 l1 x10_3).f0) x13_5) p593 q593
                           cases e593
                           obtain ⟨ce593, hce593, hMe593, hcc593⟩ := Kd.S_get HO_6.out [] (rd ((rd_T28 l1 x10_3).f0) x13_5) p593 (by first | exact q593 | exact zA | (have e_ := (Kd.S_reads' HO_6.out).1; omega))
                           obtain ⟨ve593_0, rfl, ge593_0⟩ := hMe593
                           have hv593_0 := hcc593 0 _ rfl
                           rw [Nat.add_zero, show ((Kd.slice 3 (Kd.int .i64))).sz = 1 from rfl, Nat.mul_one] at hv593_0
                           replace hv593_0 := Option.some.inj (hv593_0.symm.trans hx593_0)
                           rw [hv593_0] at ge593_0
                           have HL593_0 := aM (show Kd.R (Kd.int .i64) 3 _ _ _ _ (rd_L3 x6_6 (rd ((rd_T28 l1 x10_3).f0) x13_5)) from ge593_0)
                           clear hv593_0 ge593_0
                           have HX593_0 := aM hx593_0
                           clear hcc593 hce593
                           have HR593_0 := aM hi593_0
                           have HC593_0 := aM hl593_0
                           clear hi593_0 hl593_0
                           replace p593 := eq_true p593
                           replace q593 := eq_true q593
                           have p594 : 0 ≤ (x14_6 : Int) := zA
                           have q594 : x14_6 < ((rd_L3 x6_6 (rd ((rd_T28 l1 x10_3).f0) x13_5)).length : Int) := zA
                           obtain ⟨ad594, e594, hx594_0⟩ := Kd.at_int (by repeat (first | (with_reducible exact HR593_0.out) | (with_reducible first | refine Kd.C_alloc ?_ _ | refine Kd.C_drewN ?_ _ | refine Kd.C_drew ?_) | exact HR593_0.out)) x14_6 p594 q594
                           cases e594
                           replace p594 := eq_true p594
                           replace q594 := eq_true q594
                           go_wp2_with (first | ((with_reducible refine gate_dst (N := 91) rfl ?_); (try (refine gate_guard (by rfl) ?_; dsimp only)); refine Kd.S_lit (Kd.slice 3 (Kd.int .i64)) _ 22 ?hg (N := 91) ?hd (xs := ([] : List (List Int))) (inner := []) (ok := fun _ => True) (okp := fun _ => True) ?hr ?hp (fun _ hk => hk) trivial (Below.refl _ _) (Nat.le_refl _) (by simp) ?_; (case hd => rfl); (case hg => rfl); (case hr => first | (go_simp; done) | (go_simp; rfl)); (case hp => exact (Reps.none _ _)); intro v601 w58 ho59 hb hg_ hnew_; clear hg_ hnew_; (first | rw [← Ny600.out] at ho59 | (simp only [Int.reduceToNat] at ho59; rw [← Ny600.out] at ho59)); have HO602 := aM (Kd.S_lower (Kd.S_new' (Kd.S_new' ho59 (Kd.S_lt (by (with_reducible repeat (first | apply Kd.S_alloc | apply Kd.S_drewN | apply Kd.S_drew)); exact HO_6.out))) (Kd.R_lt (by (with_reducible repeat (first | apply Kd.R_alloc | apply Kd.R_drewN | apply Kd.R_drew)); exact HL593_0.out))) (below_size zH)); replace HO_6 := aM (Kd.S_elder' (by (with_reducible repeat (first | apply Kd.S_alloc | apply Kd.S_drewN | apply Kd.S_drew)); exact HO_6.out) (Kd.S_base ho59) hb); replace HL593_0 := aM (Kd.R_below (by (with_reducible repeat (first | apply Kd.R_alloc | apply Kd.R_drewN | apply Kd.R_drew)); exact HL593_0.out) hb); replace BK572 := cB BK572 hb; replace BK587 := cB BK587 hb; replace HR593_0 := cC HR593_0 hb; replace HX593_0 := aM (pw_cell_below hb HX593_0.out); replace HB := cH HB hb; clear hb ho59))
                           go_ret2
                           exact ⟨_, zR, by (with_reducible repeat (first | apply Kd.S_alloc | apply Kd.S_drewN | apply Kd.S_drew)); exact Kd.S_mono HO602.out (fun _ hk => trivial), zH⟩
                         ·rw [if_neg c46] at H
                          exact absurd H (by simp)
                        ·rw [if_neg c45] at H
                         exact absurd H (by simp)
                       ·rw [if_neg c44] at H
                        exact absurd H (by simp)
                      ·rw [if_neg c43] at H
                       exact absurd H (by simp)
                     ·rw [if_neg c42] at H
                      exact absurd H (by simp)
                    ·rw [if_neg c41] at H
                     exact absurd H (by simp)
                   ·rw [if_neg c40] at H
                    have c40b0 : decide (x14_6 ≤ ((rd_T28 l1 x10_3).f2)) = false := decide_eq_false c40
                    clear c40
                    have H' := aM H
                    clear H
                    have hnb60 := NB587_572.out
                    have hnc60 := NB572_587.out
                    obtain ⟨hcz61_0, hcz61_1, hcz61_2, hcz61_3, hcz61_4⟩ := kk5 BK587
                    obtain ⟨hfz61_0, hfz61_1, hfz61_2, hfz61_3, hfz61_4⟩ := kg5 BK587
                    go_wp2
                    go_roundg k6
                    case measure => have := HJ2.out; have := HK2.out; have := HK3.out; have := HJ28.out; have := HK5.out; have := HK6.out; omega
                    case rel => exact ⟨(x6_6), (wrap64 (x13_5 + 1)), zS, H', ⟨by have := HJ2.out; have := HK2.out; have := HK3.out; have := HJ28.out; have := HK5.out; have := HK6.out; omega⟩, ⟨by (with_reducible repeat (first | apply Kd.S_alloc | apply Kd.S_drewN | apply Kd.S_drew)); exact HO_6.out⟩, ⟨zK BK572⟩, ⟨zK BK587⟩, ⟨zH⟩⟩
                ·rw [if_neg c37] at H
                 have c37b0 : decide (x13_5 < (((rd_T28 l1 x10_3).f0).length : Int)) = false := decide_eq_false c37
                 clear c37
                 have H' := aM H
                 clear H
                 have hnb62 := NB587_572.out
                 have hnc62 := NB572_587.out
                 obtain ⟨hcz63_0, hcz63_1, hcz63_2, hcz63_3, hcz63_4⟩ := kk5 BK587
                 obtain ⟨hfz63_0, hfz63_1, hfz63_2, hfz63_3, hfz63_4⟩ := kg5 BK587
                 go_wp2
                 go_roundg k5
                 case measure => have := HJ2.out; have := HK2.out; have := HK3.out; have := HJ28.out; have := HK5.out; omega
                 case rel => exact ⟨(x6_5), (wrap64 (x10_3 + 1)), zS, H', ⟨by have := HJ2.out; have := HK2.out; have := HK3.out; have := HJ28.out; have := HK5.out; omega⟩, ⟨by (with_reducible repeat (first | apply Kd.S_alloc | apply Kd.S_drewN | apply Kd.S_drew)); exact HO_6.out⟩, ⟨zK BK572⟩, ⟨zH⟩⟩
           ·replace c28 := Bool.eq_false_iff.mpr c28
            subst c28
            replace H := iF H
            obtain ⟨y589, hy589⟩ : ∃ y_ : List (List Int), y_ = (([] : List (List Int))) := ⟨_, rfl⟩
            replace H : (some (y589, false)) = some (r1, r2) := by first | (rw [hy589]; with_reducible exact H) | (have H2_ := (Option.bind_some _ _).symm.trans H; rw [hy589]; with_reducible exact H2_) | (have H2_ := (Option.bind_some _ _).symm.trans H; with_reducible exact H2_) | with_reducible exact H | (rw [hy589]; exact H) | exact H
            have Ny589 := aM hy589
            clear hy589
            simp only [Option.some.injEq, Prod.mk.injEq] at H
            obtain ⟨rfl, rfl⟩ := H
            have p586 : 0 ≤ (x10_3 : Int) := zA
            have q586 : x10_3 < (l1.length : Int) := zA
            obtain ⟨ad586, A586_0, c586_0, e586, hx586_0, hx586_1, hx586_2, hx586_3, hx586_4, hl586_0, hi586_0⟩ := at_T28 HR1.out x10_3 p586 q586
            cases e586
            replace hx586_0 := hX HB hx586_0
            replace hx586_1 := hX HB hx586_1
            replace hx586_2 := hX HB hx586_2
            replace hx586_3 := hX HB hx586_3
            replace hx586_4 := hX HB hx586_4
            have HR586_0 := aM hi586_0
            have HC586_0 := aM hl586_0
            clear hi586_0 hl586_0
            replace p586 := eq_true p586
            replace q586 := eq_true q586
            go_wp2_with (first | ((with_reducible refine gate_dst (N := 11) rfl ?_); (try (refine gate_guard (by rfl) ?_; dsimp only)); refine box_event ?hg (N := 11) ?hd (cs := #[.slice none 0 0, .int .i64 0, .int .i64 0, .int .i64 0, .int .i64 0]) (t := 28) ?hr ?_; (case hd => rfl); (case hg => rfl); (case hr => first | (go_simp; done) | (go_simp; rfl)); intro gb587 hg w64 hbox hb; replace HO_6 := aM (Kd.S_below (by (with_reducible repeat (first | apply Kd.S_alloc | apply Kd.S_drewN | apply Kd.S_drew)); exact HO_6.out) hb); have BK587 := aM hbox; have GW587 := aM (zG hg : w.heap.size ≤ gb587); have GE587 := aM (zG hg : w.heap.size ≤ gb587); replace HB := cH HB hb; have NB572_587 := aM ((zL hg BK572)); have NB587_572 := aM ((zM hg BK572)); replace BK572 := cB BK572 hb; clear hb hbox hg; have hnb65 := NB587_572.out; have hnc65 := NB572_587.out; obtain ⟨hcz66_0, hcz66_1, hcz66_2, hcz66_3, hcz66_4⟩ := kk5 BK587; obtain ⟨hfz66_0, hfz66_1, hfz66_2, hfz66_3, hfz66_4⟩ := kg5 BK587; obtain ⟨hcz67_0, hcz67_1, hcz67_2, hcz67_3, hcz67_4⟩ := kk5 BK572; obtain ⟨hfz67_0, hfz67_1, hfz67_2, hfz67_3, hfz67_4⟩ := kg5 BK572) | (go_at_call 40; (with_reducible refine (spec_ScanOk.calls k3 a0_0 a0_1 a0_2 a0_3 _ _ l0_4 _ _ ((rd_T28 l1 x10_3).f0) ((rd_T28 l1 x10_3).f1) ((rd_T28 l1 x10_3).f2) ((rd_T28 l1 x10_3).f3) ((rd_T28 l1 x10_3).f4) false _ ?side1 ?side2 ?side3 ?side4 A27.out).mono ?_); (case side1 => exact Kd.C_below HR0_4.out zH); (case side2 => exact HC0_4.out); (case side3 => exact Kd.C_below HR586_0.out zH); (case side4 => exact HC586_0.out); rintro e w68 ⟨rfl, hb⟩; replace HO_6 := aM (Kd.S_below (by (with_reducible repeat (first | apply Kd.S_alloc | apply Kd.S_drewN | apply Kd.S_drew)); exact (Kd.S_mono (Kd.S_far (p := ⟨gb587, 4, none⟩) (Kd.S_far (p := ⟨gb587, 3, none⟩) (Kd.S_far (p := ⟨gb587, 2, none⟩) (Kd.S_far (p := ⟨gb587, 1, none⟩) (Kd.S_far (p := ⟨gb587, 0, none⟩) (Kd.S_types HO_6.out BK587.out (by decide)) (fun _ hk => hk.2) (.slice A586_0 ((rd_T28 l1 x10_3).f0).length c586_0)) (fun _ hk => hk.2) (.int .i64 ((rd_T28 l1 x10_3).f1))) (fun _ hk => hk.2) (.int .i64 ((rd_T28 l1 x10_3).f2))) (fun _ hk => hk.2) (.int .i64 ((rd_T28 l1 x10_3).f3))) (fun _ hk => hk.2) (.int .i64 ((rd_T28 l1 x10_3).f4))) (fun _ h_ => h_.1))) hb); replace BK572 := aM (blk_below (g := gb572) (o := .cells #[.int .i64 a0_0, .int .i64 a0_1, .int .i64 a0_2, .int .i64 a0_3, .slice A0_4 l0_4.length c0_4] 45 (0, 0)) (by (with_reducible repeat (first | apply kN | apply kD | apply kA)); refine blk_far ?_ NB572_587.out _; (with_reducible repeat (first | apply kN | apply kD | apply kA)); refine blk_far ?_ NB572_587.out _; (with_reducible repeat (first | apply kN | apply kD | apply kA)); refine blk_far ?_ NB572_587.out _; (with_reducible repeat (first | apply kN | apply kD | apply kA)); refine blk_far ?_ NB572_587.out _; (with_reducible repeat (first | apply kN | apply kD | apply kA)); refine blk_far ?_ NB572_587.out _; (with_reducible repeat (first | apply kN | apply kD | apply kA)); exact BK572.out) hb); replace BK587 := aM (blk_below (g := gb587) (o := .cells #[.slice A586_0 ((rd_T28 l1 x10_3).f0).length c586_0, .int .i64 ((rd_T28 l1 x10_3).f1), .int .i64 ((rd_T28 l1 x10_3).f2), .int .i64 ((rd_T28 l1 x10_3).f3), .int .i64 ((rd_T28 l1 x10_3).f4)] 28 (0, 0)) (by (with_reducible repeat (first | apply kN | apply kD | apply kA)); refine blk_put (cs := #[.slice A586_0 ((rd_T28 l1 x10_3).f0).length c586_0, .int .i64 ((rd_T28 l1 x10_3).f1), .int .i64 ((rd_T28 l1 x10_3).f2), .int .i64 ((rd_T28 l1 x10_3).f3), .int .i64 0]) ?_ 4 _ rfl; (with_reducible repeat (first | apply kN | apply kD | apply kA)); refine blk_put (cs := #[.slice A586_0 ((rd_T28 l1 x10_3).f0).length c586_0, .int .i64 ((rd_T28 l1 x10_3).f1), .int .i64 ((rd_T28 l1 x10_3).f2), .int .i64 0, .int .i64 0]) ?_ 3 _ rfl; (with_reducible repeat (first | apply kN | apply kD | apply kA)); refine blk_put (cs := #[.slice A586_0 ((rd_T28 l1 x10_3).f0).length c586_0, .int .i64 ((rd_T28 l1 x10_3).f1), .int .i64 0, .int .i64 0, .int .i64 0]) ?_ 2 _ rfl; (with_reducible repeat (first | apply kN | apply kD | apply kA)); refine blk_put (cs := #[.slice A586_0 ((rd_T28 l1 x10_3).f0).length c586_0, .int .i64 0, .int .i64 0, .int .i64 0, .int .i64 0]) ?_ 1 _ rfl; (with_reducible repeat (first | apply kN | apply kD | apply kA)); refine blk_put (cs := #[.slice none 0 0, .int .i64 0, .int .i64 0, .int .i64 0, .int .i64 0]) ?_ 0 _ rfl; (with_reducible repeat (first | apply kN | apply kD | apply kA)); exact BK587.out) hb); replace HB := cH HB hb; (try clear hb); (try clear hk)) | ((with_reducible refine gate_dst (N := 58) rfl ?_); (try (refine gate_guard (by rfl) ?_; dsimp only)); refine Kd.S_lit (Kd.slice 3 (Kd.int .i64)) _ 22 ?hg (N := 58) ?hd (xs := ([] : List (List Int))) (inner := []) (ok := fun _ => True) (okp := fun _ => True) ?hr ?hp (fun _ hk => hk) trivial (Below.refl _ _) (Nat.le_refl _) (by simp) ?_; (case hd => rfl); (case hg => rfl); (case hr => first | (go_simp; done) | (go_simp; rfl)); (case hp => exact (Reps.none _ _)); intro v590 w69 ho70 hb hg_ hnew_; clear hg_ hnew_; (first | rw [← Ny589.out] at ho70 | (simp only [Int.reduceToNat] at ho70; rw [← Ny589.out] at ho70)); have HO591 := aM (Kd.S_lower (Kd.S_new' ho70 (Kd.S_lt (by (with_reducible repeat (first | apply Kd.S_alloc | apply Kd.S_drewN | apply Kd.S_drew)); exact HO_6.out))) (below_size zH)); replace HO_6 := aM (Kd.S_elder' (by (with_reducible repeat (first | apply Kd.S_alloc | apply Kd.S_drewN | apply Kd.S_drew)); exact HO_6.out) (Kd.S_base ho70) hb); replace BK572 := cB BK572 hb; replace BK587 := cB BK587 hb; replace HB := cH HB hb; clear hb ho70))
            go_ret2
            exact ⟨_, zR, by (with_reducible repeat (first | apply Kd.S_alloc | apply Kd.S_drewN | apply Kd.S_drew)); exact Kd.S_mono HO591.out (fun _ hk => trivial), zH⟩
          ·rw [if_neg c26] at H
           exact absurd H (by simp)
         ·rw [if_neg c25] at H
          have c25b0 : decide (x10_3 < (l1.length : Int)) = false := decide_eq_false c25
          clear c25
          simp only [Option.some.injEq, Prod.mk.injEq] at H
          obtain ⟨rfl, rfl⟩ := H
          go_wp2
          go_ret2
          exact ⟨_, zR, by (with_reducible repeat (first | apply Kd.S_alloc | apply Kd.S_drewN | apply Kd.S_drew)); exact HO_6.out, zH⟩

end Go.Proofs.Ythajjjpblkhmmaa.CP

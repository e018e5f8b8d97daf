/- Functions that a law of this seat reaches: written by a program of this session (wip/xprint.py), and by hand. -/
import Derived.Test.YthajjjpblkhmmaaQMac
import Derived.Test.YthajjjpblkhmmaaQCPx0
import Derived.Test.YthajjjpblkhmmaaQCPx1
import Derived.Test.YthajjjpblkhmmaaQCPx15
namespace Go.Proofs.Ythajjjpblkhmmaa.CP
open Go.RowKit Go.Proofs.Ythajjjpblkhmmaa.B Go.Proofs.YthajjjpblkhmmaaW.PrintWords Go.Proofs.YthajjjpblkhmmaaW.PrintLast Go.Proofs.YthajjjpblkhmmaaW.PrintMore
attribute [local go_sem] max2_int min2_int max_two min_two max_three min_three max_four min_four   -- for this text's walks alone
set_option linter.unusedVariables false
set_option linter.unusedSimpArgs false

/-! ### spec_ScriptFor: function 33 -/
mutual
def spec_ScriptFor.j0 : Nat → Int → List (S28) → Bool → Int → Int → Int → Int → List (S42) → Option ((List (S28)))
  | 0, _, _, _, _, _, _, _, _ => none
  | k + 1, x1, x5, x20, x497000, x497001, x497002, x497003, x497004 => if x20 = true then (some x5) else (spec_ScriptFor.l0 k x1 x5 (([] : List Int)) 0 x497000 x497001 x497002 x497003 x497004)
def spec_ScriptFor.l0 : Nat → Int → List (S28) → List Int → Int → Int → Int → Int → Int → List (S42) → Option ((List (S28)))
  | 0, _, _, _, _, _, _, _, _, _ => none
  | k + 1, x1, x5, x6, x7, x497000, x497001, x497002, x497003, x497004 => if x7 < (x497004.length : Int) then (if x6.length < 17592186044416 then (spec_ScriptFor.l0 k x1 x5 (x6 ++ [x7]) (wrap64 (x7 + 1)) x497000 x497001 x497002 x497003 x497004) else (none)) else (if x1 = 0 then (if x5.length < 2513169434916 then (some (x5 ++ [(⟨x6, 0, 63, 0, 0⟩ : S28)])) else (none)) else (if x1 = 1 then (spec_ScriptFor.l1 k x5 x6 0) else ((some (([] : List Int) : List Int)).bind fun y517 => (if y517.length + x6.length < 17592186044416 then (if x5.length < 2513169434916 then (spec_ScriptFor.l2 k (x5 ++ [(⟨(y517 ++ x6), 0, 0, 0, 1⟩ : S28)]) x6 0) else (none)) else (none)))))
def spec_ScriptFor.l1 : Nat → List (S28) → List Int → Int → Option ((List (S28)))
  | 0, _, _, _ => none
  | k + 1, x5, x6, x8 => if x8 < (x6.length : Int) then (if x5.length < 2513169434916 then (spec_ScriptFor.l1 k (x5 ++ [(⟨(([x8] : List Int)), 0, 63, 0, 0⟩ : S28)]) x6 (wrap64 (x8 + 1))) else (none)) else (some x5)
def spec_ScriptFor.l2 : Nat → List (S28) → List Int → Int → Option ((List (S28)))
  | 0, _, _, _ => none
  | k + 1, x5, x6, x9 => if x9 < (x6.length : Int) then ((some (([(⟨(([x9] : List Int)), 1, 5, 0, 2⟩ : S28), (⟨(([x9] : List Int)), 6, 63, 0, 2⟩ : S28)] : List (S28)) : List (S28))).bind fun y532 => (if x5.length + y532.length < 2513169434916 then (spec_ScriptFor.l2 k (x5 ++ y532) x6 (wrap64 (x9 + 1))) else (none))) else (spec_ScriptFor.l3 k x5 x6 0)
def spec_ScriptFor.l3 : Nat → List (S28) → List Int → Int → Option ((List (S28)))
  | 0, _, _, _ => none
  | k + 1, x5, x6, x10 => if x10 < (x6.length : Int) then (if x5.length < 2513169434916 then (spec_ScriptFor.l3 k (x5 ++ [(⟨(([x10] : List Int)), 1, 63, 2, 1⟩ : S28)]) x6 (wrap64 (x10 + 1))) else (none)) else ((some (([] : List Int) : List Int)).bind fun y544 => (if y544.length + x6.length < 17592186044416 then (if x5.length < 2513169434916 then (spec_ScriptFor.l4 k (x5 ++ [(⟨(y544 ++ x6), 0, 0, 1, 0⟩ : S28)]) x6 0) else (none)) else (none)))
def spec_ScriptFor.l4 : Nat → List (S28) → List Int → Int → Option ((List (S28)))
  | 0, _, _, _ => none
  | k + 1, x5, x6, x11 => if x11 < (x6.length : Int) then (if x5.length < 2513169434916 then (spec_ScriptFor.l4 k (x5 ++ [(⟨(([x11] : List Int)), 1, 63, 1, 0⟩ : S28)]) x6 (wrap64 (x11 + 1))) else (none)) else (some x5)
end
def spec_ScriptFor.f (k : Nat) (a0_0 : Int) (a0_1 : Int) (a0_2 : Int) (a0_3 : Int) (l0_4 : List (S42)) (a1 : Int) : Option ((List (S28))) := (some (([] : List (S28)) : List (S28))).bind fun y497 => ((spec_FrameOk.f k a0_0 a0_1 a0_2 a0_3 l0_4).bind fun t500 => (if t500 = true then ((spec_l01Between.f a1 0 2).bind fun t501 => (spec_ScriptFor.j0 k a1 y497 (!t501) a0_0 a0_1 a0_2 a0_3 l0_4)) else (spec_ScriptFor.j0 k a1 y497 true a0_0 a0_1 a0_2 a0_3 l0_4)))
theorem spec_ScriptFor.mono_l : ∀ k, (∀ y0 y1 y2 y3 y4 y5 y6 y7, LeO (spec_ScriptFor.j0 k y0 y1 y2 y3 y4 y5 y6 y7) (spec_ScriptFor.j0 (k + 1) y0 y1 y2 y3 y4 y5 y6 y7)) ∧ (∀ y0 y1 y2 y3 y4 y5 y6 y7 y8, LeO (spec_ScriptFor.l0 k y0 y1 y2 y3 y4 y5 y6 y7 y8) (spec_ScriptFor.l0 (k + 1) y0 y1 y2 y3 y4 y5 y6 y7 y8)) ∧ (∀ y0 y1 y2, LeO (spec_ScriptFor.l1 k y0 y1 y2) (spec_ScriptFor.l1 (k + 1) y0 y1 y2)) ∧ (∀ y0 y1 y2, LeO (spec_ScriptFor.l2 k y0 y1 y2) (spec_ScriptFor.l2 (k + 1) y0 y1 y2)) ∧ (∀ y0 y1 y2, LeO (spec_ScriptFor.l3 k y0 y1 y2) (spec_ScriptFor.l3 (k + 1) y0 y1 y2)) ∧ (∀ y0 y1 y2, LeO (spec_ScriptFor.l4 k y0 y1 y2) (spec_ScriptFor.l4 (k + 1) y0 y1 y2))
 | 0 => ⟨fun _ _ _ _ _ _ _ _ r h => by simp [spec_ScriptFor.j0] at h, fun _ _ _ _ _ _ _ _ _ r h => by simp [spec_ScriptFor.l0] at h, fun _ _ _ r h => by simp [spec_ScriptFor.l1] at h, fun _ _ _ r h => by simp [spec_ScriptFor.l2] at h, fun _ _ _ r h => by simp [spec_ScriptFor.l3] at h, fun _ _ _ r h => by simp [spec_ScriptFor.l4] at h⟩
 | k + 1 => by
  obtain ⟨ih0, ih1, ih2, ih3, ih4, ih5⟩ := spec_ScriptFor.mono_l k
  refine ⟨?_, ?_, ?_, ?_, ?_, ?_⟩
  ·intro y0 y1 y2 y3 y4 y5 y6 y7
   unfold spec_ScriptFor.j0
   repeat' first
   | (with_reducible exact ih0 _ _ _ _ _ _ _ _)
   | (with_reducible exact ih1 _ _ _ _ _ _ _ _ _)
   | (with_reducible exact ih2 _ _ _)
   | (with_reducible exact ih3 _ _ _)
   | (with_reducible exact ih4 _ _ _)
   | (with_reducible exact ih5 _ _ _)
   | (with_reducible exact spec_FrameOk.mono _ _ _ _ _ _)
   | (with_reducible exact LeO.refl _)
   | (with_reducible exact LeO.none _)
   | (with_reducible refine LeO.ite ?_ ?_)
   | (with_reducible refine LeO.bind ?_ (fun _ => ?_))
   | exact ih0 _ _ _ _ _ _ _ _
   | exact ih1 _ _ _ _ _ _ _ _ _
   | exact ih2 _ _ _
   | exact ih3 _ _ _
   | exact ih4 _ _ _
   | exact ih5 _ _ _
   | exact spec_FrameOk.mono _ _ _ _ _ _
   | exact LeO.none _
   | refine LeO.ite ?_ ?_
   | refine LeO.bind ?_ (fun _ => ?_)
  ·intro y0 y1 y2 y3 y4 y5 y6 y7 y8
   unfold spec_ScriptFor.l0
   repeat' first
   | (with_reducible exact ih0 _ _ _ _ _ _ _ _)
   | (with_reducible exact ih1 _ _ _ _ _ _ _ _ _)
   | (with_reducible exact ih2 _ _ _)
   | (with_reducible exact ih3 _ _ _)
   | (with_reducible exact ih4 _ _ _)
   | (with_reducible exact ih5 _ _ _)
   | (with_reducible exact spec_FrameOk.mono _ _ _ _ _ _)
   | (with_reducible exact LeO.refl _)
   | (with_reducible exact LeO.none _)
   | (with_reducible refine LeO.ite ?_ ?_)
   | (with_reducible refine LeO.bind ?_ (fun _ => ?_))
   | exact ih0 _ _ _ _ _ _ _ _
   | exact ih1 _ _ _ _ _ _ _ _ _
   | exact ih2 _ _ _
   | exact ih3 _ _ _
   | exact ih4 _ _ _
   | exact ih5 _ _ _
   | exact spec_FrameOk.mono _ _ _ _ _ _
   | exact LeO.none _
   | refine LeO.ite ?_ ?_
   | refine LeO.bind ?_ (fun _ => ?_)
  ·intro y0 y1 y2
   unfold spec_ScriptFor.l1
   repeat' first
   | (with_reducible exact ih0 _ _ _ _ _ _ _ _)
   | (with_reducible exact ih1 _ _ _ _ _ _ _ _ _)
   | (with_reducible exact ih2 _ _ _)
   | (with_reducible exact ih3 _ _ _)
   | (with_reducible exact ih4 _ _ _)
   | (with_reducible exact ih5 _ _ _)
   | (with_reducible exact spec_FrameOk.mono _ _ _ _ _ _)
   | (with_reducible exact LeO.refl _)
   | (with_reducible exact LeO.none _)
   | (with_reducible refine LeO.ite ?_ ?_)
   | (with_reducible refine LeO.bind ?_ (fun _ => ?_))
   | exact ih0 _ _ _ _ _ _ _ _
   | exact ih1 _ _ _ _ _ _ _ _ _
   | exact ih2 _ _ _
   | exact ih3 _ _ _
   | exact ih4 _ _ _
   | exact ih5 _ _ _
   | exact spec_FrameOk.mono _ _ _ _ _ _
   | exact LeO.none _
   | refine LeO.ite ?_ ?_
   | refine LeO.bind ?_ (fun _ => ?_)
  ·intro y0 y1 y2
   unfold spec_ScriptFor.l2
   repeat' first
   | (with_reducible exact ih0 _ _ _ _ _ _ _ _)
   | (with_reducible exact ih1 _ _ _ _ _ _ _ _ _)
   | (with_reducible exact ih2 _ _ _)
   | (with_reducible exact ih3 _ _ _)
   | (with_reducible exact ih4 _ _ _)
   | (with_reducible exact ih5 _ _ _)
   | (with_reducible exact spec_FrameOk.mono _ _ _ _ _ _)
   | (with_reducible exact LeO.refl _)
   | (with_reducible exact LeO.none _)
   | (with_reducible refine LeO.ite ?_ ?_)
   | (with_reducible refine LeO.bind ?_ (fun _ => ?_))
   | exact ih0 _ _ _ _ _ _ _ _
   | exact ih1 _ _ _ _ _ _ _ _ _
   | exact ih2 _ _ _
   | exact ih3 _ _ _
   | exact ih4 _ _ _
   | exact ih5 _ _ _
   | exact spec_FrameOk.mono _ _ _ _ _ _
   | exact LeO.none _
   | refine LeO.ite ?_ ?_
   | refine LeO.bind ?_ (fun _ => ?_)
  ·intro y0 y1 y2
   unfold spec_ScriptFor.l3
   repeat' first
   | (with_reducible exact ih0 _ _ _ _ _ _ _ _)
   | (with_reducible exact ih1 _ _ _ _ _ _ _ _ _)
   | (with_reducible exact ih2 _ _ _)
   | (with_reducible exact ih3 _ _ _)
   | (with_reducible exact ih4 _ _ _)
   | (with_reducible exact ih5 _ _ _)
   | (with_reducible exact spec_FrameOk.mono _ _ _ _ _ _)
   | (with_reducible exact LeO.refl _)
   | (with_reducible exact LeO.none _)
   | (with_reducible refine LeO.ite ?_ ?_)
   | (with_reducible refine LeO.bind ?_ (fun _ => ?_))
   | exact ih0 _ _ _ _ _ _ _ _
   | exact ih1 _ _ _ _ _ _ _ _ _
   | exact ih2 _ _ _
   | exact ih3 _ _ _
   | exact ih4 _ _ _
   | exact ih5 _ _ _
   | exact spec_FrameOk.mono _ _ _ _ _ _
   | exact LeO.none _
   | refine LeO.ite ?_ ?_
   | refine LeO.bind ?_ (fun _ => ?_)
  ·intro y0 y1 y2
   unfold spec_ScriptFor.l4
   repeat' first
   | (with_reducible exact ih0 _ _ _ _ _ _ _ _)
   | (with_reducible exact ih1 _ _ _ _ _ _ _ _ _)
   | (with_reducible exact ih2 _ _ _)
   | (with_reducible exact ih3 _ _ _)
   | (with_reducible exact ih4 _ _ _)
   | (with_reducible exact ih5 _ _ _)
   | (with_reducible exact spec_FrameOk.mono _ _ _ _ _ _)
   | (with_reducible exact LeO.refl _)
   | (with_reducible exact LeO.none _)
   | (with_reducible refine LeO.ite ?_ ?_)
   | (with_reducible refine LeO.bind ?_ (fun _ => ?_))
   | exact ih0 _ _ _ _ _ _ _ _
   | exact ih1 _ _ _ _ _ _ _ _ _
   | exact ih2 _ _ _
   | exact ih3 _ _ _
   | exact ih4 _ _ _
   | exact ih5 _ _ _
   | exact spec_FrameOk.mono _ _ _ _ _ _
   | exact LeO.none _
   | refine LeO.ite ?_ ?_
   | refine LeO.bind ?_ (fun _ => ?_)
theorem spec_ScriptFor.mono : ∀ a0 a1 a2 a3 a4 a5 k, LeO (spec_ScriptFor.f k a0 a1 a2 a3 a4 a5) (spec_ScriptFor.f (k + 1) a0 a1 a2 a3 a4 a5) := by
 intro a0 a1 a2 a3 a4 a5 k
 obtain ⟨ih0, ih1, ih2, ih3, ih4, ih5⟩ := spec_ScriptFor.mono_l k
 unfold spec_ScriptFor.f
 repeat' first
   | (with_reducible exact ih0 _ _ _ _ _ _ _ _)
   | (with_reducible exact ih1 _ _ _ _ _ _ _ _ _)
   | (with_reducible exact ih2 _ _ _)
   | (with_reducible exact ih3 _ _ _)
   | (with_reducible exact ih4 _ _ _)
   | (with_reducible exact ih5 _ _ _)
   | (with_reducible exact spec_FrameOk.mono _ _ _ _ _ _)
   | (with_reducible exact LeO.refl _)
   | (with_reducible exact LeO.none _)
   | (with_reducible refine LeO.ite ?_ ?_)
   | (with_reducible refine LeO.bind ?_ (fun _ => ?_))
   | exact ih0 _ _ _ _ _ _ _ _
   | exact ih1 _ _ _ _ _ _ _ _ _
   | exact ih2 _ _ _
   | exact ih3 _ _ _
   | exact ih4 _ _ _
   | exact ih5 _ _ _
   | exact spec_FrameOk.mono _ _ _ _ _ _
   | exact LeO.none _
   | refine LeO.ite ?_ ?_
   | refine LeO.bind ?_ (fun _ => ?_)
set_option maxHeartbeats 8000000 in
set_option maxRecDepth 100000 in
theorem spec_ScriptFor.calls (k : Nat) (a0_0 : Int) (a0_1 : Int) (a0_2 : Int) (a0_3 : Int) (A0_4 : Option Addr) (c0_4 : Nat) (l0_4 : List (S42)) (a1 : Int) (r : List (S28)) (w : World) (hr0_4 : Kd.C k42 w A0_4 l0_4.length l0_4) (hc0_4 : l0_4.length ≤ c0_4) (h : spec_ScriptFor.f k a0_0 a0_1 a0_2 a0_3 l0_4 a1 = some r) :
  Calls Try.prog 33 #[.agg #[.int .i64 a0_0, .int .i64 a0_1, .int .i64 a0_2, .int .i64 a0_3, .slice A0_4 l0_4.length c0_4], .int .i64 a1] w fun e w' => ∃ v0_ : Value, e = .returned (v0_) ∧ Kd.N k28 28 w' w.heap.size (fun k_ => (w.heap.size ≤ k_)) v0_ r ∧ Below w.heap.size w w' := by
 have hu45 := Try.underlying45
 have hu28 := Try.underlying28
 have HR0_4 := aM hr0_4
 have HC0_4 := aM hc0_4
 clear hr0_4 hc0_4
 have HB := aM (Below.refl w.heap.size w)
 have H : ((some (([] : List (S28)) : List (S28))).bind fun y497 => ((spec_FrameOk.f k a0_0 a0_1 a0_2 a0_3 l0_4).bind fun t500 => (if t500 = true then ((spec_l01Between.f a1 0 2).bind fun t501 => (spec_ScriptFor.j0 k a1 y497 (!t501) a0_0 a0_1 a0_2 a0_3 l0_4)) else (spec_ScriptFor.j0 k a1 y497 true a0_0 a0_1 a0_2 a0_3 l0_4)))) = some r := h
 clear h
 obtain ⟨y497, hy497⟩ : ∃ y_ : List (S28), y_ = (([] : List (S28))) := ⟨_, rfl⟩
 replace H : ((spec_FrameOk.f k a0_0 a0_1 a0_2 a0_3 l0_4).bind fun t500 => (if t500 = true then ((spec_l01Between.f a1 0 2).bind fun t501 => (spec_ScriptFor.j0 k a1 y497 (!t501) a0_0 a0_1 a0_2 a0_3 l0_4)) else (spec_ScriptFor.j0 k a1 y497 true a0_0 a0_1 a0_2 a0_3 l0_4))) = some r := by first | (rw [hy497]; with_reducible exact H) | (have H2_ := (Option.bind_some _ _).symm.trans H; rw [hy497]; with_reducible exact H2_) | (have H2_ := (Option.bind_some _ _).symm.trans H; with_reducible exact H2_) | with_reducible exact H | (rw [hy497]; exact H) | exact H
 have Ny497 := aM hy497
 clear hy497
 have HC3 := aM H
 clear H
 go_enter Try.func33, Try.ntmps33
 go_upto_region 2 with (first | ((with_reducible refine gate_dst (N := 2) rfl ?_); refine box_event ?hg (N := 2) ?hd (cs := #[.int .i64 a0_0, .int .i64 a0_1, .int .i64 a0_2, .int .i64 a0_3, .slice A0_4 l0_4.length c0_4]) (t := 45) ?hr ?_; (case hd => rfl); (case hg => rfl); (case hr => first | (go_simp; done) | (go_simp; rfl)); intro gb496 hg w4 hbox hb; have BK496 := aM hbox; have GW496 := aM (zG hg : w.heap.size ≤ gb496); have GE496 := aM (zG hg : w.heap.size ≤ gb496); replace HB := cH HB hb; clear hb hbox hg) | ((with_reducible refine gate_dst (N := 12) rfl ?_); refine Kd.N_lit k28 _ 28 ?hg (N' := 12) ?hd (xs := ([] : List (S28))) (inner := []) (ok := (fun k_ => (w.heap.size ≤ k_) ∧ k_ ≠ gb496)) (okp := (fun k_ => (w.heap.size ≤ k_) ∧ k_ ≠ gb496)) ?hr ?hp (fun _ hk => hk) ((show ∀ k_, w4.heap.size ≤ k_ → (fun k_ => (w.heap.size ≤ k_) ∧ k_ ≠ gb496) k_ from fun k_ hk => ⟨(Nat.le_trans (below_size zH) hk), Kd.freshB (g := gb496) (o := .cells #[.int .i64 a0_0, .int .i64 a0_1, .int .i64 a0_2, .int .i64 a0_3, .slice A0_4 l0_4.length c0_4] 45 (0, 0)) (zK BK496) k_ hk⟩) _ (Nat.le_refl _)) (Below.refl _ _) (Nat.le_refl _) (by simp) ?_; (case hd => rfl); (case hg => rfl); (case hr => first | (go_simp; done) | (go_simp; rfl)); (case hp => exact (Reps.none _ _)); intro v498 w5 ho6 hb hg_ hnew_; clear hg_ hnew_; (first | rw [← Ny497.out] at ho6 | (simp only [Int.reduceToNat] at ho6; rw [← Ny497.out] at ho6)); have HO499 := aM (Kd.N_lower ho6 (below_size zH)); replace BK496 := cB BK496 hb; replace HB := cH HB hb; clear hb ho6))
 (try simp only [Act.put, List.setIfInBounds_toArray, List.set_cons_zero, List.set_cons_succ])
 go_cut [20] (fun v20 wc => ∃ (kq : Nat) (x20_2 : Bool), v20 = .bool x20_2 ∧ Aside0 (spec_ScriptFor.j0 kq a1 y497 x20_2 a0_0 a0_1 a0_2 a0_3 l0_4 = some r) ∧ Aside0 (kq ≤ k) ∧ Aside0 (Kd.N k28 28 wc w.heap.size (fun k_ => (w.heap.size ≤ k_) ∧ k_ ≠ gb496) v498 y497) ∧ Aside0 (wc.heap[gb496]? = some (.cells #[.int .i64 a0_0, .int .i64 a0_1, .int .i64 a0_2, .int .i64 a0_3, (.slice A0_4 l0_4.length c0_4)] 45 (0, 0))) ∧ Aside0 (Below w.heap.size w wc))
 case first =>
  have H := HC3.out
  clear HC3
  obtain ⟨t500, A7, H⟩ := oH H
  by_cases c8 : t500 = true
  ·subst c8
   replace H := iT H
   obtain ⟨t501, A9, H⟩ := oH H
   have H' := aM H
   clear H
   obtain ⟨hcz10_0, hcz10_1, hcz10_2, hcz10_3, hcz10_4⟩ := kk5 BK496
   obtain ⟨hfz10_0, hfz10_1, hfz10_2, hfz10_3, hfz10_4⟩ := kg5 BK496
   go_wp2_with (first | (go_at_call 85; (with_reducible refine (spec_FrameOk.calls k a0_0 a0_1 a0_2 a0_3 _ _ l0_4 true _ ?side1 ?side2 A7.out).mono ?_); (case side1 => exact zC (Kd.C_below HR0_4.out HB.out)); (case side2 => exact HC0_4.out); rintro e w11 ⟨rfl, hb⟩; replace HO499 := aM (Kd.N_below (by (with_reducible repeat (first | apply Kd.N_alloc | apply Kd.N_drewN | apply Kd.N_drew)); exact HO499.out) hb); replace BK496 := cB BK496 hb; replace HB := cH HB hb; (try clear hb)) | (go_at_call 76; (with_reducible refine (spec_l01Between.calls a1 0 2 t501 _ A9.out).mono ?_); rintro e w' ⟨rfl, ⟨nd, rfl⟩⟩))
   go_meet
   case rel => exact ⟨_, (!t501), zS, H', zO, ⟨by (with_reducible repeat (first | apply Kd.N_alloc | apply Kd.N_drewN | apply Kd.N_drew)); exact HO499.out⟩, ⟨zK BK496⟩, ⟨zH⟩⟩
  ·replace c8 := Bool.eq_false_iff.mpr c8
   subst c8
   replace H := iF H
   have H' := aM H
   clear H
   obtain ⟨hcz12_0, hcz12_1, hcz12_2, hcz12_3, hcz12_4⟩ := kk5 BK496
   obtain ⟨hfz12_0, hfz12_1, hfz12_2, hfz12_3, hfz12_4⟩ := kg5 BK496
   go_wp2_with (first | (go_at_call 85; (with_reducible refine (spec_FrameOk.calls k a0_0 a0_1 a0_2 a0_3 _ _ l0_4 false _ ?side1 ?side2 A7.out).mono ?_); (case side1 => exact zC (Kd.C_below HR0_4.out HB.out)); (case side2 => exact HC0_4.out); rintro e w13 ⟨rfl, hb⟩; replace HO499 := aM (Kd.N_below (by (with_reducible repeat (first | apply Kd.N_alloc | apply Kd.N_drewN | apply Kd.N_drew)); exact HO499.out) hb); replace BK496 := cB BK496 hb; replace HB := cH HB hb; (try clear hb)))
   go_meet
   case rel => exact ⟨_, (true), zS, H', zO, ⟨by (with_reducible repeat (first | apply Kd.N_alloc | apply Kd.N_drewN | apply Kd.N_drew)); exact HO499.out⟩, ⟨zK BK496⟩, ⟨zH⟩⟩
 case rest =>
  clear HC3
  obtain ⟨kq, x20_2, rfl, HA, HJ2, HO_5, BK496, HB⟩ := hcut
  cases kq with
  | zero => exact absurd HA.out (by simp [spec_ScriptFor.j0])
  | succ kj2 =>
   have H := HA.out
   clear HA
   simp only [spec_ScriptFor.j0] at H
   by_cases c14 : x20_2 = true
   ·subst c14
    replace H := iT H
    obtain rfl := Option.some.inj H
    go_wp2
    go_ret
    exact ⟨_, zR, by (with_reducible repeat (first | apply Kd.N_alloc | apply Kd.N_drewN | apply Kd.N_drew)); exact Kd.N_mono HO_5.out (fun _ hk => hk.1), zH⟩
   ·replace c14 := Bool.eq_false_iff.mpr c14
    subst c14
    replace H := iF H
    obtain ⟨y502, hy502⟩ : ∃ y_ : List Int, y_ = (([] : List Int)) := ⟨_, rfl⟩
    replace H : (spec_ScriptFor.l0 kj2 a1 y497 y502 0 a0_0 a0_1 a0_2 a0_3 l0_4) = some r := by first | (rw [hy502]; with_reducible exact H) | (have H2_ := (Option.bind_some _ _).symm.trans H; rw [hy502]; with_reducible exact H2_) | (have H2_ := (Option.bind_some _ _).symm.trans H; with_reducible exact H2_) | with_reducible exact H | (rw [hy502]; exact H) | exact H
    have Ny502 := aM hy502
    clear hy502
    have H' := aM H
    clear H
    go_wp2_with (first | ((with_reducible refine gate_dst (N := 22) rfl ?_); refine Kd.R_lit (Kd.int .i64) _ 3 ?hg (N := 22) ?hd (xs := ([] : List Int)) (inner := []) (ok := fun _ => True) (okp := fun _ => True) ?hr ?hp (fun _ hk => hk) trivial (Below.refl _ _) (Nat.le_refl _) (by simp) ?_; (case hd => rfl); (case hg => rfl); (case hr => first | (go_simp; done) | (go_simp; rfl)); (case hp => exact (Reps.none _ _)); intro v503 w15 ho16 hb hg_ hnew_; clear hg_ hnew_; (first | rw [← Ny502.out] at ho16 | (simp only [Int.reduceToNat] at ho16; rw [← Ny502.out] at ho16)); replace HO_5 := aM (Kd.N_elder' (by (with_reducible repeat (first | apply Kd.N_alloc | apply Kd.N_drewN | apply Kd.N_drew)); exact HO_5.out) (Kd.R_base ho16) hb); have HO504 := aM (Kd.R_lower (Kd.R_newM (M := fun k_ => (w.heap.size ≤ k_)) ho16 (below_size zH) (fun k_ h_ => h_)) (below_size zH)); replace BK496 := cB BK496 hb; replace HB := cH HB hb; clear hb ho16))
    go_loopg [6, 7] kj2 (fun kq v6 v7 w' => ∃ (x6_2 : List Int) (x7_2 : Int), v7 = .int .i64 x7_2 ∧ Aside0 (spec_ScriptFor.l0 kq a1 y497 x6_2 x7_2 a0_0 a0_1 a0_2 a0_3 l0_4 = some r) ∧ Aside0 (kq ≤ kj2) ∧ Aside0 (Kd.N k28 28 w' w.heap.size (fun k_ => (w.heap.size ≤ k_) ∧ some k_ ≠ (v6 : Value).ownBlock ∧ k_ ≠ gb496) v498 y497) ∧ Aside0 (Kd.R (Kd.int .i64) 3 w' w.heap.size (fun k_ => (w.heap.size ≤ k_)) v6 x6_2) ∧ Aside0 (w'.heap[gb496]? = some (.cells #[.int .i64 a0_0, .int .i64 a0_1, .int .i64 a0_2, .int .i64 a0_3, (.slice A0_4 l0_4.length c0_4)] 45 (0, 0))) ∧ Aside0 (Below w.heap.size w w'))
    case atStart => exact ⟨(y502), (0), zS, H', ⟨Nat.le_refl _⟩, ⟨by (with_reducible repeat (first | apply Kd.N_alloc | apply Kd.N_drewN | apply Kd.N_drew)); exact Kd.N_mono HO_5.out (fun _ hk => ⟨hk.1.1, ⟨hk.2, hk.1.2⟩⟩)⟩, ⟨by (with_reducible repeat (first | apply Kd.R_alloc | apply Kd.R_drewN | apply Kd.R_drew)); exact Kd.R_mono HO504.out (fun _ hk => hk.1)⟩, ⟨zK BK496⟩, ⟨zH⟩⟩
    case round =>
     clear H'
     try clear c14
     obtain ⟨x6_2, x7_2, rfl, HA, HK2, HO_5, HO_6, BK496, HB⟩ := hrel
     cases gk with
     | zero => exact absurd HA.out (by simp [spec_ScriptFor.l0])
     | succ k2 =>
      have H := HA.out
      clear HA
      simp only [spec_ScriptFor.l0] at H
      by_cases c17 : x7_2 < (l0_4.length : Int)
      ·rw [if_pos c17] at H
       have c17b0 : decide (x7_2 < (l0_4.length : Int)) = true := decide_eq_true c17
       clear c17
       by_cases c18 : x6_2.length < 17592186044416
       ·rw [if_pos c18] at H
        have LMc18 := aM c18
        clear c18
        obtain ⟨y505, hy505⟩ : ∃ y_ : List Int, y_ = (x6_2 ++ [x7_2]) := ⟨_, rfl⟩
        replace H : (spec_ScriptFor.l0 k2 a1 y497 y505 (wrap64 (x7_2 + 1)) a0_0 a0_1 a0_2 a0_3 l0_4) = some r := by first | (rw [hy505]; with_reducible exact H) | (have H2_ := (Option.bind_some _ _).symm.trans H; rw [hy505]; with_reducible exact H2_) | (have H2_ := (Option.bind_some _ _).symm.trans H; with_reducible exact H2_) | with_reducible exact H | (rw [hy505]; exact H) | exact H
        have Ny505 := aM hy505
        clear hy505
        have H' := aM H
        clear H
        obtain ⟨hcz19_0, hcz19_1, hcz19_2, hcz19_3, hcz19_4⟩ := kk5 BK496
        obtain ⟨hfz19_0, hfz19_1, hfz19_2, hfz19_3, hfz19_4⟩ := kg5 BK496
        go_wp2_with (first | ((with_reducible refine gate_builtin (b := .append) (xs := #[.tmp 30, .tmp 32]) rfl ?_); at_builtin; refine Kd.R_append (Kd.int .i64) (w0 := w) w.heap.size rfl (.tmp 30) (.tmp 32) 22 3 (.int .i64 0) 8 rfl Try.underlying22 info3 rfl (by decide) (by omega) u6 x6_2 x7_2 [.int .i64 x7_2] (fun k_ => (w.heap.size ≤ k_)) (fun _ => False) rfl rfl ?aP (fun _ hk => hk.elim) ?aF ?aO ?aB ?aS ?aL ?_; (case aP => exact rfl); (case aB => exact zH); (case aF => exact (fun k_ hk => (Nat.le_trans (below_size zH) hk))); (case aO => exact (by (with_reducible repeat (first | apply Kd.R_alloc | apply Kd.R_drewN | apply Kd.R_drew)); exact HO_6.out)); (case aS => exact (below_size zH)); (case aL => have := LMc18.out; omega); intro v506 w20 ho hb hg hat; rw [← Ny505.out] at ho; replace HO_5 := aM (Kd.N_afterv (ok := (fun k_ => (w.heap.size ≤ k_) ∧ k_ ≠ gb496)) (by (with_reducible repeat (first | apply Kd.N_alloc | apply Kd.N_drewN | apply Kd.N_drew)); exact Kd.N_mono HO_5.out (fun _ hk => ⟨⟨hk.1, hk.2.2⟩, hk.2.1⟩)) hg hat); replace BK496 := aM (blk_grown (g := gb496) (o := .cells #[.int .i64 a0_0, .int .i64 a0_1, .int .i64 a0_2, .int .i64 a0_3, .slice A0_4 l0_4.length c0_4] 45 (0, 0)) (zK BK496) hg (Kd.R_ne HO_6.out BK496.out (by decide))); replace HB := aM (hb); have HO507 := aM (ho); clear HO_6; clear ho hb hg hat))
        go_roundg k2
        case measure => have := HJ2.out; have := HK2.out; omega
        case rel => exact ⟨(y505), (wrap64 (x7_2 + 1)), zS, H', ⟨by have := HJ2.out; have := HK2.out; omega⟩, ⟨by (with_reducible repeat (first | apply Kd.N_alloc | apply Kd.N_drewN | apply Kd.N_drew)); exact Kd.N_mono HO_5.out (fun _ hk => ⟨hk.1.1, ⟨hk.2, hk.1.2⟩⟩)⟩, ⟨by (with_reducible repeat (first | apply Kd.R_alloc | apply Kd.R_drewN | apply Kd.R_drew)); exact HO507.out⟩, ⟨zK BK496⟩, ⟨zH⟩⟩
       ·rw [if_neg c18] at H
        exact absurd H (by simp)
      ·rw [if_neg c17] at H
       have c17b0 : decide (x7_2 < (l0_4.length : Int)) = false := decide_eq_false c17
       clear c17
       by_cases c21 : a1 = 0
       ·rw [if_pos c21] at H
        have c21b0 : (a1 == 0) = true := beq_iff_eq.mpr c21
        have c21b1 : (a1 != 0) = false := bne_eq_false_iff_eq.mpr c21
        clear c21
        by_cases c22 : y497.length < 2513169434916
        ·rw [if_pos c22] at H
         have LMc22 := aM c22
         clear c22
         obtain ⟨y508, hy508⟩ : ∃ y_ : List (S28), y_ = (y497 ++ [(⟨x6_2, 0, 63, 0, 0⟩ : S28)]) := ⟨_, rfl⟩
         replace H : (some y508) = some r := by first | (rw [hy508]; with_reducible exact H) | (have H2_ := (Option.bind_some _ _).symm.trans H; rw [hy508]; with_reducible exact H2_) | (have H2_ := (Option.bind_some _ _).symm.trans H; with_reducible exact H2_) | with_reducible exact H | (rw [hy508]; exact H) | exact H
         have Ny508 := aM hy508
         clear hy508
         obtain rfl := Option.some.inj H
         obtain ⟨hcz23_0, hcz23_1, hcz23_2, hcz23_3, hcz23_4⟩ := kk5 BK496
         obtain ⟨hfz23_0, hfz23_1, hfz23_2, hfz23_3, hfz23_4⟩ := kg5 BK496
         obtain ⟨Ao24, co24, eo24⟩ := Kd.R_slice HO_6.out
         subst eo24
         go_wp2_with (first | ((with_reducible refine gate_builtin (b := .append) (xs := #[.tmp 36, .tmp 39]) rfl ?_); at_builtin; refine Kd.N_append k28 (w0 := w) w.heap.size rfl (.tmp 36) (.tmp 39) 46 28 (.agg #[(.slice none 0 0), (.int .i64 0), (.int .i64 0), (.int .i64 0), (.int .i64 0)]) 56 rfl Try.underlying46 info28 rfl (by decide) (by omega) v498 y497 (⟨x6_2, 0, 63, 0, 0⟩ : S28) [.slice Ao24 x6_2.length co24, .int .i64 0, .int .i64 63, .int .i64 0, .int .i64 0] (fun k_ => (w.heap.size ≤ k_) ∧ k_ ≠ gb496) (fun k_ => ((fun k_ => (w.heap.size ≤ k_) ∧ k_ ≠ gb496)) k_ ∧ some k_ ≠ (v498 : Value).ownBlock) rfl rfl ?aP (fun _ hk => hk) ?aF ?aO ?aB ?aS ?aL ?_; (case aP => exact (k28_mkF _ _ (⟨x6_2, 0, 63, 0, 0⟩ : S28) (Kd.R_reads' (Kd.R_mono (ok' := (fun k_ => ((fun k_ => (w.heap.size ≤ k_) ∧ k_ ≠ gb496)) k_ ∧ some k_ ≠ (v498 : Value).ownBlock)) (Kd.R_types (Kd.R_apart' (HO_6.out) (Kd.N_typed HO_5.out) (by decide)) BK496.out (by decide)) (fun k_ hk => ⟨⟨hk.1.1, hk.2⟩, hk.1.2⟩))).2.1 (Kd.R_F (Kd.R_mono (ok' := (fun k_ => ((fun k_ => (w.heap.size ≤ k_) ∧ k_ ≠ gb496)) k_ ∧ some k_ ≠ (v498 : Value).ownBlock)) (Kd.R_types (Kd.R_apart' (HO_6.out) (Kd.N_typed HO_5.out) (by decide)) BK496.out (by decide)) (fun k_ hk => ⟨⟨hk.1.1, hk.2⟩, hk.1.2⟩))))); (case aB => exact zH); (case aF => exact (fun k_ hk => ⟨(Nat.le_trans (below_size zH) hk), Kd.freshB (g := gb496) (o := .cells #[.int .i64 a0_0, .int .i64 a0_1, .int .i64 a0_2, .int .i64 a0_3, .slice A0_4 l0_4.length c0_4] 45 (0, 0)) (zK BK496) k_ hk⟩)); (case aO => exact (by (with_reducible repeat (first | apply Kd.N_alloc | apply Kd.N_drewN | apply Kd.N_drew)); exact Kd.N_mono HO_5.out (fun _ hk => ⟨hk.1, hk.2.2⟩))); (case aS => exact (below_size zH)); (case aL => have := LMc22.out; omega); intro v509 w25 ho hb hg hat; rw [← Ny508.out] at ho; replace BK496 := aM (blk_grown (g := gb496) (o := .cells #[.int .i64 a0_0, .int .i64 a0_1, .int .i64 a0_2, .int .i64 a0_3, .slice A0_4 l0_4.length c0_4] 45 (0, 0)) (zK BK496) hg (Kd.N_ne HO_5.out BK496.out (by decide))); replace HB := aM (hb); have HO510 := aM (ho); clear HO_5 HO_6; clear ho hb hg hat))
         go_ret
         exact ⟨_, zR, by (with_reducible repeat (first | apply Kd.N_alloc | apply Kd.N_drewN | apply Kd.N_drew)); exact Kd.N_mono HO510.out (fun _ hk => hk.1), zH⟩
        ·rw [if_neg c22] at H
         exact absurd H (by simp)
       ·rw [if_neg c21] at H
        have c21b0 : (a1 == 0) = false := beq_eq_false_iff_ne.mpr c21
        have c21b1 : (a1 != 0) = true := bne_iff_ne.mpr c21
        by_cases c26 : a1 = 1
        ·rw [if_pos c26] at H
         have c26b0 : (a1 == 1) = true := beq_iff_eq.mpr c26
         have c26b1 : (a1 != 1) = false := bne_eq_false_iff_eq.mpr c26
         clear c26
         have H' := aM H
         clear H
         obtain ⟨hcz27_0, hcz27_1, hcz27_2, hcz27_3, hcz27_4⟩ := kk5 BK496
         obtain ⟨hfz27_0, hfz27_1, hfz27_2, hfz27_3, hfz27_4⟩ := kg5 BK496
         go_wp2
         go_loopg [5, 8] k2 (fun kq v5 v8 w' => ∃ (x5_3 : List (S28)) (x8_3 : Int), v8 = .int .i64 x8_3 ∧ Aside0 (spec_ScriptFor.l1 kq x5_3 x6_2 x8_3 = some r) ∧ Aside0 (kq ≤ k2) ∧ Aside0 (Kd.N k28 28 w' w.heap.size (fun k_ => (w.heap.size ≤ k_) ∧ some k_ ≠ (u6 : Value).ownBlock ∧ k_ ≠ gb496) v5 x5_3) ∧ Aside0 (Kd.R (Kd.int .i64) 3 w' w.heap.size (fun k_ => (w.heap.size ≤ k_)) u6 x6_2) ∧ Aside0 (w'.heap[gb496]? = some (.cells #[.int .i64 a0_0, .int .i64 a0_1, .int .i64 a0_2, .int .i64 a0_3, (.slice A0_4 l0_4.length c0_4)] 45 (0, 0))) ∧ Aside0 (Below w.heap.size w w'))
         case atStart => exact ⟨(y497), (0), zS, H', ⟨Nat.le_refl _⟩, ⟨by (with_reducible repeat (first | apply Kd.N_alloc | apply Kd.N_drewN | apply Kd.N_drew)); exact HO_5.out⟩, ⟨by (with_reducible repeat (first | apply Kd.R_alloc | apply Kd.R_drewN | apply Kd.R_drew)); exact HO_6.out⟩, ⟨zK BK496⟩, ⟨zH⟩⟩
         case round =>
          clear H'
          (try clear c17b0); (try clear c21); (try clear c21b0); (try clear c21b1); (try clear c26b0); (try clear c26b1); (try clear hcz27_0); (try clear hcz27_1); (try clear hcz27_2); (try clear hcz27_3); (try clear hcz27_4); (try clear hfz27_0); (try clear hfz27_1); (try clear hfz27_2); (try clear hfz27_3); (try clear hfz27_4)
          obtain ⟨x5_3, x8_3, rfl, HA, HK3, HO_5, HO_6, BK496, HB⟩ := hrel
          cases gk with
          | zero => exact absurd HA.out (by simp [spec_ScriptFor.l1])
          | succ k3 =>
           have H := HA.out
           clear HA
           simp only [spec_ScriptFor.l1] at H
           by_cases c28 : x8_3 < (x6_2.length : Int)
           ·rw [if_pos c28] at H
            have c28b0 : decide (x8_3 < (x6_2.length : Int)) = true := decide_eq_true c28
            clear c28
            obtain ⟨y511, hy511⟩ : ∃ y_ : List Int, y_ = (([x8_3] : List Int)) := ⟨_, rfl⟩
            replace H : (if x5_3.length < 2513169434916 then (spec_ScriptFor.l1 k3 (x5_3 ++ [(⟨y511, 0, 63, 0, 0⟩ : S28)]) x6_2 (wrap64 (x8_3 + 1))) else (none)) = some r := by first | (rw [hy511]; with_reducible exact H) | (have H2_ := (Option.bind_some _ _).symm.trans H; rw [hy511]; with_reducible exact H2_) | (have H2_ := (Option.bind_some _ _).symm.trans H; with_reducible exact H2_) | with_reducible exact H | (rw [hy511]; exact H) | exact H
            have Ny511 := aM hy511
            clear hy511
            by_cases c29 : x5_3.length < 2513169434916
            ·rw [if_pos c29] at H
             have LMc29 := aM c29
             clear c29
             obtain ⟨y514, hy514⟩ : ∃ y_ : List (S28), y_ = (x5_3 ++ [(⟨y511, 0, 63, 0, 0⟩ : S28)]) := ⟨_, rfl⟩
             replace H : (spec_ScriptFor.l1 k3 y514 x6_2 (wrap64 (x8_3 + 1))) = some r := by first | (rw [hy514]; with_reducible exact H) | (have H2_ := (Option.bind_some _ _).symm.trans H; rw [hy514]; with_reducible exact H2_) | (have H2_ := (Option.bind_some _ _).symm.trans H; with_reducible exact H2_) | with_reducible exact H | (rw [hy514]; exact H) | exact H
             have Ny514 := aM hy514
             clear hy514
             have H' := aM H
             clear H
             obtain ⟨Ao30, co30, eo30⟩ := Kd.R_slice HO_6.out
             subst eo30
             go_wp2_with (first | ((with_reducible refine gate_dst (N := 51) rfl ?_); refine Kd.R_lit (Kd.int .i64) _ 3 ?hg (N := 51) ?hd (xs := ([x8_3] : List Int)) (inner := [.int .i64 x8_3]) (ok := fun _ => True) (okp := fun _ => True) ?hr ?hp (fun _ hk => hk) trivial (Below.refl _ _) (Nat.le_refl _) (by simp) ?_; (case hd => rfl); (case hg => rfl); (case hr => first | (go_simp; done) | (go_simp; rfl)); (case hp => exact (Reps.one (show Kd.M (Kd.int .i64) _ _ _ x8_3 [.int .i64 x8_3] from rfl) (Reps.none _ _))); intro v512 w31 ho32 hb hg_ hnew_; clear hg_ hnew_; (first | rw [← Ny511.out] at ho32 | (simp only [Int.reduceToNat] at ho32; rw [← Ny511.out] at ho32)); replace HO_5 := aM (Kd.N_elder' (by (with_reducible repeat (first | apply Kd.N_alloc | apply Kd.N_drewN | apply Kd.N_drew)); exact HO_5.out) (Kd.R_base ho32) hb); have HO513 := aM (Kd.R_lower (Kd.R_new' (Kd.R_newM (M := fun k_ => (w.heap.size ≤ k_)) ho32 (below_size zH) (fun k_ h_ => h_)) (Kd.R_lt (by (with_reducible repeat (first | apply Kd.R_alloc | apply Kd.R_drewN | apply Kd.R_drew)); exact HO_6.out))) (below_size zH)); replace HO_6 := aM (Kd.R_elder' (by (with_reducible repeat (first | apply Kd.R_alloc | apply Kd.R_drewN | apply Kd.R_drew)); exact HO_6.out) (Kd.R_base ho32) hb); replace BK496 := cB BK496 hb; replace HB := cH HB hb; clear hb ho32; obtain ⟨Ao33, co33, eo33⟩ := Kd.R_slice HO513.out; subst eo33) | ((with_reducible refine gate_builtin (b := .append) (xs := #[.tmp 49, .tmp 53]) rfl ?_); at_builtin; refine Kd.N_append k28 (w0 := w) w.heap.size rfl (.tmp 49) (.tmp 53) 46 28 (.agg #[(.slice none 0 0), (.int .i64 0), (.int .i64 0), (.int .i64 0), (.int .i64 0)]) 56 rfl Try.underlying46 info28 rfl (by decide) (by omega) u5 x5_3 (⟨y511, 0, 63, 0, 0⟩ : S28) [.slice Ao33 y511.length co33, .int .i64 0, .int .i64 63, .int .i64 0, .int .i64 0] (fun k_ => (w.heap.size ≤ k_) ∧ some k_ ≠ (.slice Ao30 x6_2.length co30 : Value).ownBlock ∧ k_ ≠ gb496) (fun k_ => ((fun k_ => (w.heap.size ≤ k_) ∧ some k_ ≠ (.slice Ao30 x6_2.length co30 : Value).ownBlock ∧ k_ ≠ gb496)) k_ ∧ some k_ ≠ (u5 : Value).ownBlock) rfl rfl ?aP (fun _ hk => hk) ?aF ?aO ?aB ?aS ?aL ?_; (case aP => exact (k28_mkF _ _ (⟨y511, 0, 63, 0, 0⟩ : S28) (Kd.R_reads' (Kd.R_mono (ok' := (fun k_ => ((fun k_ => (w.heap.size ≤ k_) ∧ some k_ ≠ (.slice Ao30 x6_2.length co30 : Value).ownBlock ∧ k_ ≠ gb496)) k_ ∧ some k_ ≠ (u5 : Value).ownBlock)) (Kd.R_types (Kd.R_apart' (HO513.out) (Kd.N_typed HO_5.out) (by decide)) BK496.out (by decide)) (fun k_ hk => ⟨⟨hk.1.1.1.1, ⟨hk.1.1.2, hk.2⟩⟩, hk.1.2⟩))).2.1 (Kd.R_F (Kd.R_mono (ok' := (fun k_ => ((fun k_ => (w.heap.size ≤ k_) ∧ some k_ ≠ (.slice Ao30 x6_2.length co30 : Value).ownBlock ∧ k_ ≠ gb496)) k_ ∧ some k_ ≠ (u5 : Value).ownBlock)) (Kd.R_types (Kd.R_apart' (HO513.out) (Kd.N_typed HO_5.out) (by decide)) BK496.out (by decide)) (fun k_ hk => ⟨⟨hk.1.1.1.1, ⟨hk.1.1.2, hk.2⟩⟩, hk.1.2⟩))))); (case aB => exact zH); (case aF => exact (fun k_ hk => ⟨(Nat.le_trans (below_size zH) hk), Kd.fresh' (Kd.R_lt (by (with_reducible repeat (first | apply Kd.R_alloc | apply Kd.R_drewN | apply Kd.R_drew)); exact HO_6.out)) k_ hk, Kd.freshB (g := gb496) (o := .cells #[.int .i64 a0_0, .int .i64 a0_1, .int .i64 a0_2, .int .i64 a0_3, .slice A0_4 l0_4.length c0_4] 45 (0, 0)) (zK BK496) k_ hk⟩)); (case aO => exact (by (with_reducible repeat (first | apply Kd.N_alloc | apply Kd.N_drewN | apply Kd.N_drew)); exact Kd.N_mono HO_5.out (fun _ hk => ⟨hk.1.1, ⟨hk.1.2.1, hk.1.2.2⟩⟩))); (case aS => exact (below_size zH)); (case aL => have := LMc29.out; omega); intro v515 w34 ho hb hg hat; rw [← Ny514.out] at ho; replace HO_6 := aM (Kd.R_over' (by (with_reducible repeat (first | apply Kd.R_alloc | apply Kd.R_drewN | apply Kd.R_drew)); exact HO_6.out) (Kd.N_typed (by (with_reducible repeat (first | apply Kd.N_alloc | apply Kd.N_drewN | apply Kd.N_drew)); exact HO_5.out)) (by decide) hg); replace BK496 := aM (blk_grown (g := gb496) (o := .cells #[.int .i64 a0_0, .int .i64 a0_1, .int .i64 a0_2, .int .i64 a0_3, .slice A0_4 l0_4.length c0_4] 45 (0, 0)) (zK BK496) hg (Kd.N_ne HO_5.out BK496.out (by decide))); replace HB := aM (hb); have HO516 := aM (ho); clear HO_5 HO513; clear ho hb hg hat))
             go_roundg k3
             case measure => have := HJ2.out; have := HK2.out; have := HK3.out; omega
             case rel => exact ⟨(y514), (wrap64 (x8_3 + 1)), zS, H', ⟨by have := HJ2.out; have := HK2.out; have := HK3.out; omega⟩, ⟨by (with_reducible repeat (first | apply Kd.N_alloc | apply Kd.N_drewN | apply Kd.N_drew)); exact HO516.out⟩, ⟨by (with_reducible repeat (first | apply Kd.R_alloc | apply Kd.R_drewN | apply Kd.R_drew)); exact Kd.R_mono HO_6.out (fun _ hk => hk.1)⟩, ⟨zK BK496⟩, ⟨zH⟩⟩
            ·rw [if_neg c29] at H
             exact absurd H (by simp)
           ·rw [if_neg c28] at H
            have c28b0 : decide (x8_3 < (x6_2.length : Int)) = false := decide_eq_false c28
            clear c28
            obtain rfl := Option.some.inj H
            obtain ⟨Ao35, co35, eo35⟩ := Kd.R_slice HO_6.out
            subst eo35
            go_wp2
            go_ret
            exact ⟨_, zR, by (with_reducible repeat (first | apply Kd.N_alloc | apply Kd.N_drewN | apply Kd.N_drew)); exact Kd.N_mono HO_5.out (fun _ hk => hk.1), zH⟩
        ·rw [if_neg c26] at H
         have c26b0 : (a1 == 1) = false := beq_eq_false_iff_ne.mpr c26
         have c26b1 : (a1 != 1) = true := bne_iff_ne.mpr c26
         obtain ⟨y517, hy517⟩ : ∃ y_ : List Int, y_ = (([] : List Int)) := ⟨_, rfl⟩
         replace H : (if y517.length + x6_2.length < 17592186044416 then (if y497.length < 2513169434916 then (spec_ScriptFor.l2 k2 (y497 ++ [(⟨(y517 ++ x6_2), 0, 0, 0, 1⟩ : S28)]) x6_2 0) else (none)) else (none)) = some r := by first | (rw [hy517]; with_reducible exact H) | (have H2_ := (Option.bind_some _ _).symm.trans H; rw [hy517]; with_reducible exact H2_) | (have H2_ := (Option.bind_some _ _).symm.trans H; with_reducible exact H2_) | with_reducible exact H | (rw [hy517]; exact H) | exact H
         have Ny517 := aM hy517
         clear hy517
         by_cases c36 : y517.length + x6_2.length < 17592186044416
         ·rw [if_pos c36] at H
          have LMc36 := aM c36
          clear c36
          obtain ⟨y520, hy520⟩ : ∃ y_ : List Int, y_ = (y517 ++ x6_2) := ⟨_, rfl⟩
          replace H : (if y497.length < 2513169434916 then (spec_ScriptFor.l2 k2 (y497 ++ [(⟨y520, 0, 0, 0, 1⟩ : S28)]) x6_2 0) else (none)) = some r := by first | (rw [hy520]; with_reducible exact H) | (have H2_ := (Option.bind_some _ _).symm.trans H; rw [hy520]; with_reducible exact H2_) | (have H2_ := (Option.bind_some _ _).symm.trans H; with_reducible exact H2_) | with_reducible exact H | (rw [hy520]; exact H) | exact H
          have Ny520 := aM hy520
          clear hy520
          by_cases c37 : y497.length < 2513169434916
          ·rw [if_pos c37] at H
           have LMc37 := aM c37
           clear c37
           obtain ⟨y523, hy523⟩ : ∃ y_ : List (S28), y_ = (y497 ++ [(⟨y520, 0, 0, 0, 1⟩ : S28)]) := ⟨_, rfl⟩
           replace H : (spec_ScriptFor.l2 k2 y523 x6_2 0) = some r := by first | (rw [hy523]; with_reducible exact H) | (have H2_ := (Option.bind_some _ _).symm.trans H; rw [hy523]; with_reducible exact H2_) | (have H2_ := (Option.bind_some _ _).symm.trans H; with_reducible exact H2_) | with_reducible exact H | (rw [hy523]; exact H) | exact H
           have Ny523 := aM hy523
           clear hy523
           have H' := aM H
           clear H
           obtain ⟨hcz38_0, hcz38_1, hcz38_2, hcz38_3, hcz38_4⟩ := kk5 BK496
           obtain ⟨hfz38_0, hfz38_1, hfz38_2, hfz38_3, hfz38_4⟩ := kg5 BK496
           go_wp2_with (first | ((with_reducible refine gate_dst (N := 57) rfl ?_); refine Kd.R_lit (Kd.int .i64) _ 3 ?hg (N := 57) ?hd (xs := ([] : List Int)) (inner := []) (ok := fun _ => True) (okp := fun _ => True) ?hr ?hp (fun _ hk => hk) trivial (Below.refl _ _) (Nat.le_refl _) (by simp) ?_; (case hd => rfl); (case hg => rfl); (case hr => first | (go_simp; done) | (go_simp; rfl)); (case hp => exact (Reps.none _ _)); intro v518 w39 ho40 hb hg_ hnew_; clear hg_ hnew_; (first | rw [← Ny517.out] at ho40 | (simp only [Int.reduceToNat] at ho40; rw [← Ny517.out] at ho40)); replace HO_5 := aM (Kd.N_elder' (by (with_reducible repeat (first | apply Kd.N_alloc | apply Kd.N_drewN | apply Kd.N_drew)); exact HO_5.out) (Kd.R_base ho40) hb); have HO519 := aM (Kd.R_lower (Kd.R_new' (Kd.R_newM (M := fun k_ => (w.heap.size ≤ k_)) ho40 (below_size zH) (fun k_ h_ => h_)) (Kd.R_lt (by (with_reducible repeat (first | apply Kd.R_alloc | apply Kd.R_drewN | apply Kd.R_drew)); exact HO_6.out))) (below_size zH)); replace HO_6 := aM (Kd.R_elder' (by (with_reducible repeat (first | apply Kd.R_alloc | apply Kd.R_drewN | apply Kd.R_drew)); exact HO_6.out) (Kd.R_base ho40) hb); replace BK496 := cB BK496 hb; replace HB := cH HB hb; clear hb ho40; obtain ⟨Ao42, co42, eo42⟩ := Kd.R_slice HO_6.out; subst eo42) | ((with_reducible refine gate_builtin (b := .append) (xs := #[.tmp 57, .tmp 58]) rfl ?_); at_builtin; refine Kd.R_append_rows (Kd.int .i64) (w0 := w) w.heap.size rfl (.tmp 57) (.tmp 58) 22 3 (.int .i64 0) 8 rfl Try.underlying22 info3 rfl (by decide) (by omega) v518 y517 x6_2 _ _ _ (fun k_ => (w.heap.size ≤ k_) ∧ some k_ ≠ (.slice Ao42 x6_2.length co42 : Value).ownBlock) (fun _ => False) rfl rfl ?aO ?aR (fun _ _ h => h) (fun _ h => h.elim) ?aF ?aB ?aS ?aL ?_; (case aR => exact zC (Kd.R_reads' HO_6.out).2.2); (case aB => exact zH); (case aF => exact (fun k_ hk => ⟨(Nat.le_trans (below_size zH) hk), Kd.fresh' (Kd.R_lt (by (with_reducible repeat (first | apply Kd.R_alloc | apply Kd.R_drewN | apply Kd.R_drew)); exact HO_6.out)) k_ hk⟩)); (case aO => exact (by (with_reducible repeat (first | apply Kd.R_alloc | apply Kd.R_drewN | apply Kd.R_drew)); exact Kd.R_mono HO519.out (fun _ hk => ⟨hk.1.1, hk.2⟩))); (case aS => exact (below_size zH)); (case aL => have := LMc36.out; omega); intro v521 w41 ho hb hg hat; rw [← Ny520.out] at ho; replace HO_5 := aM (Kd.N_afterv (ok := (fun k_ => (w.heap.size ≤ k_) ∧ some k_ ≠ (.slice Ao42 x6_2.length co42 : Value).ownBlock ∧ k_ ≠ gb496)) (by (with_reducible repeat (first | apply Kd.N_alloc | apply Kd.N_drewN | apply Kd.N_drew)); exact HO_5.out) hg hat); replace HO_6 := aM (Kd.R_after (ok := (fun k_ => (w.heap.size ≤ k_))) (by (with_reducible repeat (first | apply Kd.R_alloc | apply Kd.R_drewN | apply Kd.R_drew)); exact HO_6.out) hg hat); replace BK496 := aM (blk_grown (g := gb496) (o := .cells #[.int .i64 a0_0, .int .i64 a0_1, .int .i64 a0_2, .int .i64 a0_3, .slice A0_4 l0_4.length c0_4] 45 (0, 0)) (zK BK496) hg (Kd.R_ne HO519.out BK496.out (by decide))); replace HB := aM (hb); have HO522 := aM (ho); clear HO519; clear ho hb hg hat; obtain ⟨Ao43, co43, eo43⟩ := Kd.R_slice HO522.out; subst eo43) | ((with_reducible refine gate_builtin (b := .append) (xs := #[.tmp 56, .tmp 61]) rfl ?_); at_builtin; refine Kd.N_append k28 (w0 := w) w.heap.size rfl (.tmp 56) (.tmp 61) 46 28 (.agg #[(.slice none 0 0), (.int .i64 0), (.int .i64 0), (.int .i64 0), (.int .i64 0)]) 56 rfl Try.underlying46 info28 rfl (by decide) (by omega) v498 y497 (⟨y520, 0, 0, 0, 1⟩ : S28) [.slice Ao43 y520.length co43, .int .i64 0, .int .i64 0, .int .i64 0, .int .i64 1] (fun k_ => (w.heap.size ≤ k_) ∧ some k_ ≠ (.slice Ao42 x6_2.length co42 : Value).ownBlock ∧ k_ ≠ gb496) (fun k_ => ((fun k_ => (w.heap.size ≤ k_) ∧ some k_ ≠ (.slice Ao42 x6_2.length co42 : Value).ownBlock ∧ k_ ≠ gb496)) k_ ∧ some k_ ≠ (v498 : Value).ownBlock) rfl rfl ?aP (fun _ hk => hk) ?aF ?aO ?aB ?aS ?aL ?_; (case aP => exact (k28_mkF _ _ (⟨y520, 0, 0, 0, 1⟩ : S28) (Kd.R_reads' (Kd.R_mono (ok' := (fun k_ => ((fun k_ => (w.heap.size ≤ k_) ∧ some k_ ≠ (.slice Ao42 x6_2.length co42 : Value).ownBlock ∧ k_ ≠ gb496)) k_ ∧ some k_ ≠ (v498 : Value).ownBlock)) (Kd.R_types (Kd.R_apart' (HO522.out) (Kd.N_typed HO_5.out) (by decide)) BK496.out (by decide)) (fun k_ hk => ⟨⟨hk.1.1.1, ⟨hk.1.1.2, hk.2⟩⟩, hk.1.2⟩))).2.1 (Kd.R_F (Kd.R_mono (ok' := (fun k_ => ((fun k_ => (w.heap.size ≤ k_) ∧ some k_ ≠ (.slice Ao42 x6_2.length co42 : Value).ownBlock ∧ k_ ≠ gb496)) k_ ∧ some k_ ≠ (v498 : Value).ownBlock)) (Kd.R_types (Kd.R_apart' (HO522.out) (Kd.N_typed HO_5.out) (by decide)) BK496.out (by decide)) (fun k_ hk => ⟨⟨hk.1.1.1, ⟨hk.1.1.2, hk.2⟩⟩, hk.1.2⟩))))); (case aB => exact zH); (case aF => exact (fun k_ hk => ⟨(Nat.le_trans (below_size zH) hk), Kd.fresh' (Kd.R_lt (by (with_reducible repeat (first | apply Kd.R_alloc | apply Kd.R_drewN | apply Kd.R_drew)); exact HO_6.out)) k_ hk, Kd.freshB (g := gb496) (o := .cells #[.int .i64 a0_0, .int .i64 a0_1, .int .i64 a0_2, .int .i64 a0_3, .slice A0_4 l0_4.length c0_4] 45 (0, 0)) (zK BK496) k_ hk⟩)); (case aO => exact (by (with_reducible repeat (first | apply Kd.N_alloc | apply Kd.N_drewN | apply Kd.N_drew)); exact Kd.N_mono HO_5.out (fun _ hk => ⟨hk.1.1, ⟨hk.1.2.1, hk.1.2.2⟩⟩))); (case aS => exact (below_size zH)); (case aL => have := LMc37.out; omega); intro v524 w44 ho hb hg hat; rw [← Ny523.out] at ho; replace HO_6 := aM (Kd.R_over' (by (with_reducible repeat (first | apply Kd.R_alloc | apply Kd.R_drewN | apply Kd.R_drew)); exact HO_6.out) (Kd.N_typed (by (with_reducible repeat (first | apply Kd.N_alloc | apply Kd.N_drewN | apply Kd.N_drew)); exact HO_5.out)) (by decide) hg); replace BK496 := aM (blk_grown (g := gb496) (o := .cells #[.int .i64 a0_0, .int .i64 a0_1, .int .i64 a0_2, .int .i64 a0_3, .slice A0_4 l0_4.length c0_4] 45 (0, 0)) (zK BK496) hg (Kd.N_ne HO_5.out BK496.out (by decide))); replace HB := aM (hb); have HO525 := aM (ho); clear HO_5 HO522; clear ho hb hg hat))
           go_loopg [5, 9] k2 (fun kq v5 v9 w' => ∃ (x5_3 : List (S28)) (x9_3 : Int), v9 = .int .i64 x9_3 ∧ Aside0 (spec_ScriptFor.l2 kq x5_3 x6_2 x9_3 = some r) ∧ Aside0 (kq ≤ k2) ∧ Aside0 (Kd.N k28 28 w' w.heap.size (fun k_ => (w.heap.size ≤ k_) ∧ some k_ ≠ ((.slice Ao42 x6_2.length co42) : Value).ownBlock ∧ k_ ≠ gb496) v5 x5_3) ∧ Aside0 (Kd.R (Kd.int .i64) 3 w' w.heap.size (fun k_ => (w.heap.size ≤ k_)) (.slice Ao42 x6_2.length co42) x6_2) ∧ Aside0 (w'.heap[gb496]? = some (.cells #[.int .i64 a0_0, .int .i64 a0_1, .int .i64 a0_2, .int .i64 a0_3, (.slice A0_4 l0_4.length c0_4)] 45 (0, 0))) ∧ Aside0 (Below w.heap.size w w'))
           case atStart => exact ⟨(y523), (0), zS, H', ⟨Nat.le_refl _⟩, ⟨by (with_reducible repeat (first | apply Kd.N_alloc | apply Kd.N_drewN | apply Kd.N_drew)); exact HO525.out⟩, ⟨by (with_reducible repeat (first | apply Kd.R_alloc | apply Kd.R_drewN | apply Kd.R_drew)); exact Kd.R_mono HO_6.out (fun _ hk => hk.1)⟩, ⟨zK BK496⟩, ⟨zH⟩⟩
           case round =>
            clear H'
            (try clear c17b0); (try clear c21); (try clear c21b0); (try clear c21b1); (try clear c26); (try clear c26b0); (try clear c26b1); (try clear hcz38_0); (try clear hcz38_1); (try clear hcz38_2); (try clear hcz38_3); (try clear hcz38_4); (try clear hfz38_0); (try clear hfz38_1); (try clear hfz38_2); (try clear hfz38_3); (try clear hfz38_4)
            obtain ⟨x5_3, x9_3, rfl, HA, HK3, HO_5, HO_6, BK496, HB⟩ := hrel
            cases gk with
            | zero => exact absurd HA.out (by simp [spec_ScriptFor.l2])
            | succ k3 =>
             have H := HA.out
             clear HA
             simp only [spec_ScriptFor.l2] at H
             by_cases c45 : x9_3 < (x6_2.length : Int)
             ·rw [if_pos c45] at H
              have c45b0 : decide (x9_3 < (x6_2.length : Int)) = true := decide_eq_true c45
              clear c45
              obtain ⟨y526, hy526⟩ : ∃ y_ : List Int, y_ = (([x9_3] : List Int)) := ⟨_, rfl⟩
              replace H : ((some (([(⟨y526, 1, 5, 0, 2⟩ : S28), (⟨(([x9_3] : List Int)), 6, 63, 0, 2⟩ : S28)] : List (S28)) : List (S28))).bind fun y532 => (if x5_3.length + y532.length < 2513169434916 then (spec_ScriptFor.l2 k3 (x5_3 ++ y532) x6_2 (wrap64 (x9_3 + 1))) else (none))) = some r := by first | (rw [hy526]; with_reducible exact H) | (have H2_ := (Option.bind_some _ _).symm.trans H; rw [hy526]; with_reducible exact H2_) | (have H2_ := (Option.bind_some _ _).symm.trans H; with_reducible exact H2_) | with_reducible exact H | (rw [hy526]; exact H) | exact H
              have Ny526 := aM hy526
              clear hy526
              obtain ⟨y529, hy529⟩ : ∃ y_ : List Int, y_ = (([x9_3] : List Int)) := ⟨_, rfl⟩
              replace H : ((some (([(⟨y526, 1, 5, 0, 2⟩ : S28), (⟨y529, 6, 63, 0, 2⟩ : S28)] : List (S28)) : List (S28))).bind fun y532 => (if x5_3.length + y532.length < 2513169434916 then (spec_ScriptFor.l2 k3 (x5_3 ++ y532) x6_2 (wrap64 (x9_3 + 1))) else (none))) = some r := by first | (rw [hy529]; with_reducible exact H) | (have H2_ := (Option.bind_some _ _).symm.trans H; rw [hy529]; with_reducible exact H2_) | (have H2_ := (Option.bind_some _ _).symm.trans H; with_reducible exact H2_) | with_reducible exact H | (rw [hy529]; exact H) | exact H
              have Ny529 := aM hy529
              clear hy529
              obtain ⟨y532, hy532⟩ : ∃ y_ : List (S28), y_ = (([(⟨y526, 1, 5, 0, 2⟩ : S28), (⟨y529, 6, 63, 0, 2⟩ : S28)] : List (S28))) := ⟨_, rfl⟩
              replace H : (if x5_3.length + y532.length < 2513169434916 then (spec_ScriptFor.l2 k3 (x5_3 ++ y532) x6_2 (wrap64 (x9_3 + 1))) else (none)) = some r := by first | (rw [hy532]; with_reducible exact H) | (have H2_ := (Option.bind_some _ _).symm.trans H; rw [hy532]; with_reducible exact H2_) | (have H2_ := (Option.bind_some _ _).symm.trans H; with_reducible exact H2_) | with_reducible exact H | (rw [hy532]; exact H) | exact H
              have Ny532 := aM hy532
              clear hy532
              by_cases c46 : x5_3.length + y532.length < 2513169434916
              ·rw [if_pos c46] at H
               have LMc46 := aM c46
               clear c46
               obtain ⟨y535, hy535⟩ : ∃ y_ : List (S28), y_ = (x5_3 ++ y532) := ⟨_, rfl⟩
               replace H : (spec_ScriptFor.l2 k3 y535 x6_2 (wrap64 (x9_3 + 1))) = some r := by first | (rw [hy535]; with_reducible exact H) | (have H2_ := (Option.bind_some _ _).symm.trans H; rw [hy535]; with_reducible exact H2_) | (have H2_ := (Option.bind_some _ _).symm.trans H; with_reducible exact H2_) | with_reducible exact H | (rw [hy535]; exact H) | exact H
               have Ny535 := aM hy535
               clear hy535
               have H' := aM H
               clear H
               go_wp2_with (first | ((with_reducible refine gate_dst (N := 71) rfl ?_); refine Kd.R_lit (Kd.int .i64) _ 3 ?hg (N := 71) ?hd (xs := ([x9_3] : List Int)) (inner := [.int .i64 x9_3]) (ok := fun _ => True) (okp := fun _ => True) ?hr ?hp (fun _ hk => hk) trivial (Below.refl _ _) (Nat.le_refl _) (by simp) ?_; (case hd => rfl); (case hg => rfl); (case hr => first | (go_simp; done) | (go_simp; rfl)); (case hp => exact (Reps.one (show Kd.M (Kd.int .i64) _ _ _ x9_3 [.int .i64 x9_3] from rfl) (Reps.none _ _))); intro v527 w47 ho48 hb hg_ hnew_; clear hg_ hnew_; (first | rw [← Ny526.out] at ho48 | (simp only [Int.reduceToNat] at ho48; rw [← Ny526.out] at ho48)); replace HO_5 := aM (Kd.N_elder' (by (with_reducible repeat (first | apply Kd.N_alloc | apply Kd.N_drewN | apply Kd.N_drew)); exact HO_5.out) (Kd.R_base ho48) hb); have HO528 := aM (Kd.R_lower (Kd.R_new' (Kd.R_newM (M := fun k_ => (w.heap.size ≤ k_)) ho48 (below_size zH) (fun k_ h_ => h_)) (Kd.R_lt (by (with_reducible repeat (first | apply Kd.R_alloc | apply Kd.R_drewN | apply Kd.R_drew)); exact HO_6.out))) (below_size zH)); replace HO_6 := aM (Kd.R_elder' (by (with_reducible repeat (first | apply Kd.R_alloc | apply Kd.R_drewN | apply Kd.R_drew)); exact HO_6.out) (Kd.R_base ho48) hb); replace BK496 := cB BK496 hb; replace HB := cH HB hb; clear hb ho48; obtain ⟨Ao49, co49, eo49⟩ := Kd.R_slice HO528.out; subst eo49) | ((with_reducible refine gate_dst (N := 74) rfl ?_); refine Kd.R_lit (Kd.int .i64) _ 3 ?hg (N := 74) ?hd (xs := ([x9_3] : List Int)) (inner := [.int .i64 x9_3]) (ok := fun _ => True) (okp := fun _ => True) ?hr ?hp (fun _ hk => hk) trivial (Below.refl _ _) (Nat.le_refl _) (by simp) ?_; (case hd => rfl); (case hg => rfl); (case hr => first | (go_simp; done) | (go_simp; rfl)); (case hp => exact (Reps.one (show Kd.M (Kd.int .i64) _ _ _ x9_3 [.int .i64 x9_3] from rfl) (Reps.none _ _))); intro v530 w50 ho51 hb hg_ hnew_; clear hg_ hnew_; (first | rw [← Ny529.out] at ho51 | (simp only [Int.reduceToNat] at ho51; rw [← Ny529.out] at ho51)); replace HO_5 := aM (Kd.N_elder' (by (with_reducible repeat (first | apply Kd.N_alloc | apply Kd.N_drewN | apply Kd.N_drew)); exact HO_5.out) (Kd.R_base ho51) hb); have HO531 := aM (Kd.R_lower (Kd.R_new' (Kd.R_new' (Kd.R_newM (M := fun k_ => (w.heap.size ≤ k_)) ho51 (below_size zH) (fun k_ h_ => h_)) (Kd.R_lt (by (with_reducible repeat (first | apply Kd.R_alloc | apply Kd.R_drewN | apply Kd.R_drew)); exact HO_6.out))) (Kd.R_lt (by (with_reducible repeat (first | apply Kd.R_alloc | apply Kd.R_drewN | apply Kd.R_drew)); exact HO528.out))) (below_size zH)); replace HO_6 := aM (Kd.R_elder' (by (with_reducible repeat (first | apply Kd.R_alloc | apply Kd.R_drewN | apply Kd.R_drew)); exact HO_6.out) (Kd.R_base ho51) hb); replace HO528 := aM (Kd.R_elder' (by (with_reducible repeat (first | apply Kd.R_alloc | apply Kd.R_drewN | apply Kd.R_drew)); exact HO528.out) (Kd.R_base ho51) hb); replace BK496 := cB BK496 hb; replace HB := cH HB hb; clear hb ho51; obtain ⟨Ao52, co52, eo52⟩ := Kd.R_slice HO531.out; subst eo52) | ((with_reducible refine gate_dst (N := 76) rfl ?_); refine Kd.N_lit k28 _ 28 ?hg (N' := 76) ?hd (xs := ([(⟨y526, 1, 5, 0, 2⟩ : S28), (⟨y529, 6, 63, 0, 2⟩ : S28)] : List (S28))) (inner := [.slice Ao49 y526.length co49, .int .i64 1, .int .i64 5, .int .i64 0, .int .i64 2, .slice Ao52 y529.length co52, .int .i64 6, .int .i64 63, .int .i64 0, .int .i64 2]) (ok := (fun k_ => (w.heap.size ≤ k_) ∧ some k_ ≠ (u5 : Value).ownBlock ∧ some k_ ≠ (.slice Ao42 x6_2.length co42 : Value).ownBlock ∧ k_ ≠ gb496)) (okp := (fun k_ => (w.heap.size ≤ k_) ∧ some k_ ≠ (u5 : Value).ownBlock ∧ some k_ ≠ (.slice Ao42 x6_2.length co42 : Value).ownBlock ∧ k_ ≠ gb496)) ?hr ?hp (fun _ hk => hk) ((show ∀ k_, w50.heap.size ≤ k_ → (fun k_ => (w.heap.size ≤ k_) ∧ some k_ ≠ (u5 : Value).ownBlock ∧ some k_ ≠ (.slice Ao42 x6_2.length co42 : Value).ownBlock ∧ k_ ≠ gb496) k_ from fun k_ hk => ⟨(Nat.le_trans (below_size zH) hk), Kd.fresh' (Kd.N_lt (by (with_reducible repeat (first | apply Kd.N_alloc | apply Kd.N_drewN | apply Kd.N_drew)); exact HO_5.out)) k_ hk, Kd.fresh' (Kd.R_lt (by (with_reducible repeat (first | apply Kd.R_alloc | apply Kd.R_drewN | apply Kd.R_drew)); exact HO_6.out)) k_ hk, Kd.freshB (g := gb496) (o := .cells #[.int .i64 a0_0, .int .i64 a0_1, .int .i64 a0_2, .int .i64 a0_3, .slice A0_4 l0_4.length c0_4] 45 (0, 0)) (zK BK496) k_ hk⟩) _ (Nat.le_refl _)) (Below.refl _ _) (Nat.le_refl _) (by simp) ?_; (case hd => rfl); (case hg => rfl); (case hr => first | (go_simp; done) | (go_simp; rfl)); (case hp => exact (Reps.c5 (show Kd.FK k28 _ _ (⟨y526, 1, 5, 0, 2⟩ : S28) [.slice Ao49 y526.length co49, .int .i64 1, .int .i64 5, .int .i64 0, .int .i64 2] from (k28_mkF _ _ (⟨y526, 1, 5, 0, 2⟩ : S28) (Kd.R_reads' (Kd.R_mono (ok' := (fun k_ => (w.heap.size ≤ k_) ∧ some k_ ≠ (u5 : Value).ownBlock ∧ some k_ ≠ (.slice Ao42 x6_2.length co42 : Value).ownBlock ∧ k_ ≠ gb496)) (Kd.R_types (Kd.R_apart' (HO528.out) (Kd.N_typed HO_5.out) (by decide)) BK496.out (by decide)) (fun k_ hk => ⟨hk.1.1.1.1.1, ⟨hk.1.2, ⟨hk.1.1.1.2, hk.2⟩⟩⟩))).2.1 (Kd.R_F (Kd.R_mono (ok' := (fun k_ => (w.heap.size ≤ k_) ∧ some k_ ≠ (u5 : Value).ownBlock ∧ some k_ ≠ (.slice Ao42 x6_2.length co42 : Value).ownBlock ∧ k_ ≠ gb496)) (Kd.R_types (Kd.R_apart' (HO528.out) (Kd.N_typed HO_5.out) (by decide)) BK496.out (by decide)) (fun k_ hk => ⟨hk.1.1.1.1.1, ⟨hk.1.2, ⟨hk.1.1.1.2, hk.2⟩⟩⟩))))) (Reps.c5 (show Kd.FK k28 _ _ (⟨y529, 6, 63, 0, 2⟩ : S28) [.slice Ao52 y529.length co52, .int .i64 6, .int .i64 63, .int .i64 0, .int .i64 2] from (k28_mkF _ _ (⟨y529, 6, 63, 0, 2⟩ : S28) (Kd.R_reads' (Kd.R_mono (ok' := (fun k_ => (w.heap.size ≤ k_) ∧ some k_ ≠ (u5 : Value).ownBlock ∧ some k_ ≠ (.slice Ao42 x6_2.length co42 : Value).ownBlock ∧ k_ ≠ gb496)) (Kd.R_types (Kd.R_apart' (HO531.out) (Kd.N_typed HO_5.out) (by decide)) BK496.out (by decide)) (fun k_ hk => ⟨hk.1.1.1.1.1, ⟨hk.1.2, ⟨hk.1.1.1.2, hk.2⟩⟩⟩))).2.1 (Kd.R_F (Kd.R_mono (ok' := (fun k_ => (w.heap.size ≤ k_) ∧ some k_ ≠ (u5 : Value).ownBlock ∧ some k_ ≠ (.slice Ao42 x6_2.length co42 : Value).ownBlock ∧ k_ ≠ gb496)) (Kd.R_types (Kd.R_apart' (HO531.out) (Kd.N_typed HO_5.out) (by decide)) BK496.out (by decide)) (fun k_ hk => ⟨hk.1.1.1.1.1, ⟨hk.1.2, ⟨hk.1.1.1.2, hk.2⟩⟩⟩))))) (Reps.none _ _)))); intro v533 w53 ho54 hb hg_ hnew_; clear hg_ hnew_; (first | rw [← Ny532.out] at ho54 | (simp only [Int.reduceToNat] at ho54; rw [← Ny532.out] at ho54)); replace HO_5 := aM (Kd.N_elder' (by (with_reducible repeat (first | apply Kd.N_alloc | apply Kd.N_drewN | apply Kd.N_drew)); exact HO_5.out) (Kd.N_base ho54) hb); replace HO_6 := aM (Kd.R_below (by (with_reducible repeat (first | apply Kd.R_alloc | apply Kd.R_drewN | apply Kd.R_drew)); exact HO_6.out) hb); have HO534 := aM (Kd.N_lower ho54 (below_size zH)); replace BK496 := cB BK496 hb; replace HB := cH HB hb; clear HO528 HO531; clear hb ho54; obtain ⟨Ao56, co56, eo56⟩ := Kd.N_slice HO534.out; subst eo56) | ((with_reducible refine gate_builtin (b := .append) (xs := #[.tmp 69, .tmp 76]) rfl ?_); at_builtin; refine Kd.N_append_rows k28 (w0 := w) w.heap.size rfl (.tmp 69) (.tmp 76) 46 28 (.agg #[(.slice none 0 0), (.int .i64 0), (.int .i64 0), (.int .i64 0), (.int .i64 0)]) 56 rfl Try.underlying46 info28 rfl (by decide) (by omega) u5 x5_3 y532 _ _ _ (fun k_ => (w.heap.size ≤ k_) ∧ some k_ ≠ (.slice Ao42 x6_2.length co42 : Value).ownBlock ∧ k_ ≠ gb496) (fun k_ => ((fun k_ => (w.heap.size ≤ k_) ∧ some k_ ≠ (.slice Ao42 x6_2.length co42 : Value).ownBlock ∧ k_ ≠ gb496)) k_ ∧ some k_ ≠ (u5 : Value).ownBlock) rfl rfl ?aO ?aR (fun _ hk => hk) ?aF ?aB ?aS ?aL ?_; (case aR => exact (by skip; exact Kd.N_F (Kd.N_mono (ok' := (fun k_ => ((fun k_ => (w.heap.size ≤ k_) ∧ some k_ ≠ (.slice Ao42 x6_2.length co42 : Value).ownBlock ∧ k_ ≠ gb496)) k_ ∧ some k_ ≠ (u5 : Value).ownBlock)) (HO534.out) (fun k_ hk => ⟨⟨hk.1, ⟨hk.2.2.1, hk.2.2.2⟩⟩, hk.2.1⟩)))); (case aB => exact zH); (case aF => exact (fun k_ hk => ⟨(Nat.le_trans (below_size zH) hk), Kd.fresh' (Kd.R_lt (by (with_reducible repeat (first | apply Kd.R_alloc | apply Kd.R_drewN | apply Kd.R_drew)); exact HO_6.out)) k_ hk, Kd.freshB (g := gb496) (o := .cells #[.int .i64 a0_0, .int .i64 a0_1, .int .i64 a0_2, .int .i64 a0_3, .slice A0_4 l0_4.length c0_4] 45 (0, 0)) (zK BK496) k_ hk⟩)); (case aO => exact (by (with_reducible repeat (first | apply Kd.N_alloc | apply Kd.N_drewN | apply Kd.N_drew)); exact Kd.N_mono HO_5.out (fun _ hk => ⟨hk.1.1.1.1, ⟨hk.1.1.1.2.1, hk.1.1.1.2.2⟩⟩))); (case aS => exact (below_size zH)); (case aL => have := LMc46.out; omega); intro v536 w55 ho hb hg hat; rw [← Ny535.out] at ho; replace HO_6 := aM (Kd.R_over' (by (with_reducible repeat (first | apply Kd.R_alloc | apply Kd.R_drewN | apply Kd.R_drew)); exact HO_6.out) (Kd.N_typed (by (with_reducible repeat (first | apply Kd.N_alloc | apply Kd.N_drewN | apply Kd.N_drew)); exact HO_5.out)) (by decide) hg); replace BK496 := aM (blk_grown (g := gb496) (o := .cells #[.int .i64 a0_0, .int .i64 a0_1, .int .i64 a0_2, .int .i64 a0_3, .slice A0_4 l0_4.length c0_4] 45 (0, 0)) (zK BK496) hg (Kd.N_ne HO_5.out BK496.out (by decide))); replace HO534 := aM (Kd.N_afterv (ok := (fun k_ => (w.heap.size ≤ k_) ∧ some k_ ≠ (.slice Ao42 x6_2.length co42 : Value).ownBlock ∧ k_ ≠ gb496)) (by (with_reducible repeat (first | apply Kd.N_alloc | apply Kd.N_drewN | apply Kd.N_drew)); exact Kd.N_mono HO534.out (fun _ hk => ⟨⟨hk.1, ⟨hk.2.2.1, hk.2.2.2⟩⟩, hk.2.1⟩)) hg hat); replace HB := aM (hb); have HO537 := aM (ho); clear HO_5; clear ho hb hg hat))
               go_roundg k3
               case measure => have := HJ2.out; have := HK2.out; have := HK3.out; omega
               case rel => exact ⟨(y535), (wrap64 (x9_3 + 1)), zS, H', ⟨by have := HJ2.out; have := HK2.out; have := HK3.out; omega⟩, ⟨by (with_reducible repeat (first | apply Kd.N_alloc | apply Kd.N_drewN | apply Kd.N_drew)); exact HO537.out⟩, ⟨by (with_reducible repeat (first | apply Kd.R_alloc | apply Kd.R_drewN | apply Kd.R_drew)); exact Kd.R_mono HO_6.out (fun _ hk => hk.1.1)⟩, ⟨zK BK496⟩, ⟨zH⟩⟩
              ·rw [if_neg c46] at H
               exact absurd H (by simp)
             ·rw [if_neg c45] at H
              have c45b0 : decide (x9_3 < (x6_2.length : Int)) = false := decide_eq_false c45
              clear c45
              have H' := aM H
              clear H
              go_wp2
              go_loopg [5, 10] k3 (fun kq v5 v10 w' => ∃ (x5_4 : List (S28)) (x10_4 : Int), v10 = .int .i64 x10_4 ∧ Aside0 (spec_ScriptFor.l3 kq x5_4 x6_2 x10_4 = some r) ∧ Aside0 (kq ≤ k3) ∧ Aside0 (Kd.N k28 28 w' w.heap.size (fun k_ => (w.heap.size ≤ k_) ∧ some k_ ≠ ((.slice Ao42 x6_2.length co42) : Value).ownBlock ∧ k_ ≠ gb496) v5 x5_4) ∧ Aside0 (Kd.R (Kd.int .i64) 3 w' w.heap.size (fun k_ => (w.heap.size ≤ k_)) (.slice Ao42 x6_2.length co42) x6_2) ∧ Aside0 (w'.heap[gb496]? = some (.cells #[.int .i64 a0_0, .int .i64 a0_1, .int .i64 a0_2, .int .i64 a0_3, (.slice A0_4 l0_4.length c0_4)] 45 (0, 0))) ∧ Aside0 (Below w.heap.size w w'))
              case atStart => exact ⟨(x5_3), (0), zS, H', ⟨Nat.le_refl _⟩, ⟨by (with_reducible repeat (first | apply Kd.N_alloc | apply Kd.N_drewN | apply Kd.N_drew)); exact HO_5.out⟩, ⟨by (with_reducible repeat (first | apply Kd.R_alloc | apply Kd.R_drewN | apply Kd.R_drew)); exact HO_6.out⟩, ⟨zK BK496⟩, ⟨zH⟩⟩
              case round =>
               clear H'
               try clear c45b0
               obtain ⟨x5_4, x10_4, rfl, HA, HK4, HO_5, HO_6, BK496, HB⟩ := hrel
               cases gk with
               | zero => exact absurd HA.out (by simp [spec_ScriptFor.l3])
               | succ k4 =>
                have H := HA.out
                clear HA
                simp only [spec_ScriptFor.l3] at H
                by_cases c57 : x10_4 < (x6_2.length : Int)
                ·rw [if_pos c57] at H
                 have c57b0 : decide (x10_4 < (x6_2.length : Int)) = true := decide_eq_true c57
                 clear c57
                 obtain ⟨y538, hy538⟩ : ∃ y_ : List Int, y_ = (([x10_4] : List Int)) := ⟨_, rfl⟩
                 replace H : (if x5_4.length < 2513169434916 then (spec_ScriptFor.l3 k4 (x5_4 ++ [(⟨y538, 1, 63, 2, 1⟩ : S28)]) x6_2 (wrap64 (x10_4 + 1))) else (none)) = some r := by first | (rw [hy538]; with_reducible exact H) | (have H2_ := (Option.bind_some _ _).symm.trans H; rw [hy538]; with_reducible exact H2_) | (have H2_ := (Option.bind_some _ _).symm.trans H; with_reducible exact H2_) | with_reducible exact H | (rw [hy538]; exact H) | exact H
                 have Ny538 := aM hy538
                 clear hy538
                 by_cases c58 : x5_4.length < 2513169434916
                 ·rw [if_pos c58] at H
                  have LMc58 := aM c58
                  clear c58
                  obtain ⟨y541, hy541⟩ : ∃ y_ : List (S28), y_ = (x5_4 ++ [(⟨y538, 1, 63, 2, 1⟩ : S28)]) := ⟨_, rfl⟩
                  replace H : (spec_ScriptFor.l3 k4 y541 x6_2 (wrap64 (x10_4 + 1))) = some r := by first | (rw [hy541]; with_reducible exact H) | (have H2_ := (Option.bind_some _ _).symm.trans H; rw [hy541]; with_reducible exact H2_) | (have H2_ := (Option.bind_some _ _).symm.trans H; with_reducible exact H2_) | with_reducible exact H | (rw [hy541]; exact H) | exact H
                  have Ny541 := aM hy541
                  clear hy541
                  have H' := aM H
                  clear H
                  go_wp2_with (first | ((with_reducible refine gate_dst (N := 86) rfl ?_); refine Kd.R_lit (Kd.int .i64) _ 3 ?hg (N := 86) ?hd (xs := ([x10_4] : List Int)) (inner := [.int .i64 x10_4]) (ok := fun _ => True) (okp := fun _ => True) ?hr ?hp (fun _ hk => hk) trivial (Below.refl _ _) (Nat.le_refl _) (by simp) ?_; (case hd => rfl); (case hg => rfl); (case hr => first | (go_simp; done) | (go_simp; rfl)); (case hp => exact (Reps.one (show Kd.M (Kd.int .i64) _ _ _ x10_4 [.int .i64 x10_4] from rfl) (Reps.none _ _))); intro v539 w59 ho60 hb hg_ hnew_; clear hg_ hnew_; (first | rw [← Ny538.out] at ho60 | (simp only [Int.reduceToNat] at ho60; rw [← Ny538.out] at ho60)); replace HO_5 := aM (Kd.N_elder' (by (with_reducible repeat (first | apply Kd.N_alloc | apply Kd.N_drewN | apply Kd.N_drew)); exact HO_5.out) (Kd.R_base ho60) hb); have HO540 := aM (Kd.R_lower (Kd.R_new' (Kd.R_newM (M := fun k_ => (w.heap.size ≤ k_)) ho60 (below_size zH) (fun k_ h_ => h_)) (Kd.R_lt (by (with_reducible repeat (first | apply Kd.R_alloc | apply Kd.R_drewN | apply Kd.R_drew)); exact HO_6.out))) (below_size zH)); replace HO_6 := aM (Kd.R_elder' (by (with_reducible repeat (first | apply Kd.R_alloc | apply Kd.R_drewN | apply Kd.R_drew)); exact HO_6.out) (Kd.R_base ho60) hb); replace BK496 := cB BK496 hb; replace HB := cH HB hb; clear hb ho60; obtain ⟨Ao61, co61, eo61⟩ := Kd.R_slice HO540.out; subst eo61) | ((with_reducible refine gate_builtin (b := .append) (xs := #[.tmp 84, .tmp 88]) rfl ?_); at_builtin; refine Kd.N_append k28 (w0 := w) w.heap.size rfl (.tmp 84) (.tmp 88) 46 28 (.agg #[(.slice none 0 0), (.int .i64 0), (.int .i64 0), (.int .i64 0), (.int .i64 0)]) 56 rfl Try.underlying46 info28 rfl (by decide) (by omega) u5 x5_4 (⟨y538, 1, 63, 2, 1⟩ : S28) [.slice Ao61 y538.length co61, .int .i64 1, .int .i64 63, .int .i64 2, .int .i64 1] (fun k_ => (w.heap.size ≤ k_) ∧ some k_ ≠ (.slice Ao42 x6_2.length co42 : Value).ownBlock ∧ k_ ≠ gb496) (fun k_ => ((fun k_ => (w.heap.size ≤ k_) ∧ some k_ ≠ (.slice Ao42 x6_2.length co42 : Value).ownBlock ∧ k_ ≠ gb496)) k_ ∧ some k_ ≠ (u5 : Value).ownBlock) rfl rfl ?aP (fun _ hk => hk) ?aF ?aO ?aB ?aS ?aL ?_; (case aP => exact (k28_mkF _ _ (⟨y538, 1, 63, 2, 1⟩ : S28) (Kd.R_reads' (Kd.R_mono (ok' := (fun k_ => ((fun k_ => (w.heap.size ≤ k_) ∧ some k_ ≠ (.slice Ao42 x6_2.length co42 : Value).ownBlock ∧ k_ ≠ gb496)) k_ ∧ some k_ ≠ (u5 : Value).ownBlock)) (Kd.R_types (Kd.R_apart' (HO540.out) (Kd.N_typed HO_5.out) (by decide)) BK496.out (by decide)) (fun k_ hk => ⟨⟨hk.1.1.1.1, ⟨hk.1.1.2, hk.2⟩⟩, hk.1.2⟩))).2.1 (Kd.R_F (Kd.R_mono (ok' := (fun k_ => ((fun k_ => (w.heap.size ≤ k_) ∧ some k_ ≠ (.slice Ao42 x6_2.length co42 : Value).ownBlock ∧ k_ ≠ gb496)) k_ ∧ some k_ ≠ (u5 : Value).ownBlock)) (Kd.R_types (Kd.R_apart' (HO540.out) (Kd.N_typed HO_5.out) (by decide)) BK496.out (by decide)) (fun k_ hk => ⟨⟨hk.1.1.1.1, ⟨hk.1.1.2, hk.2⟩⟩, hk.1.2⟩))))); (case aB => exact zH); (case aF => exact (fun k_ hk => ⟨(Nat.le_trans (below_size zH) hk), Kd.fresh' (Kd.R_lt (by (with_reducible repeat (first | apply Kd.R_alloc | apply Kd.R_drewN | apply Kd.R_drew)); exact HO_6.out)) k_ hk, Kd.freshB (g := gb496) (o := .cells #[.int .i64 a0_0, .int .i64 a0_1, .int .i64 a0_2, .int .i64 a0_3, .slice A0_4 l0_4.length c0_4] 45 (0, 0)) (zK BK496) k_ hk⟩)); (case aO => exact (by (with_reducible repeat (first | apply Kd.N_alloc | apply Kd.N_drewN | apply Kd.N_drew)); exact Kd.N_mono HO_5.out (fun _ hk => ⟨hk.1.1, ⟨hk.1.2.1, hk.1.2.2⟩⟩))); (case aS => exact (below_size zH)); (case aL => have := LMc58.out; omega); intro v542 w62 ho hb hg hat; rw [← Ny541.out] at ho; replace HO_6 := aM (Kd.R_over' (by (with_reducible repeat (first | apply Kd.R_alloc | apply Kd.R_drewN | apply Kd.R_drew)); exact HO_6.out) (Kd.N_typed (by (with_reducible repeat (first | apply Kd.N_alloc | apply Kd.N_drewN | apply Kd.N_drew)); exact HO_5.out)) (by decide) hg); replace BK496 := aM (blk_grown (g := gb496) (o := .cells #[.int .i64 a0_0, .int .i64 a0_1, .int .i64 a0_2, .int .i64 a0_3, .slice A0_4 l0_4.length c0_4] 45 (0, 0)) (zK BK496) hg (Kd.N_ne HO_5.out BK496.out (by decide))); replace HB := aM (hb); have HO543 := aM (ho); clear HO_5 HO540; clear ho hb hg hat))
                  go_roundg k4
                  case measure => have := HJ2.out; have := HK2.out; have := HK3.out; have := HK4.out; omega
                  case rel => exact ⟨(y541), (wrap64 (x10_4 + 1)), zS, H', ⟨by have := HJ2.out; have := HK2.out; have := HK3.out; have := HK4.out; omega⟩, ⟨by (with_reducible repeat (first | apply Kd.N_alloc | apply Kd.N_drewN | apply Kd.N_drew)); exact HO543.out⟩, ⟨by (with_reducible repeat (first | apply Kd.R_alloc | apply Kd.R_drewN | apply Kd.R_drew)); exact Kd.R_mono HO_6.out (fun _ hk => hk.1)⟩, ⟨zK BK496⟩, ⟨zH⟩⟩
                 ·rw [if_neg c58] at H
                  exact absurd H (by simp)
                ·rw [if_neg c57] at H
                 have c57b0 : decide (x10_4 < (x6_2.length : Int)) = false := decide_eq_false c57
                 clear c57
                 obtain ⟨y544, hy544⟩ : ∃ y_ : List Int, y_ = (([] : List Int)) := ⟨_, rfl⟩
                 replace H : (if y544.length + x6_2.length < 17592186044416 then (if x5_4.length < 2513169434916 then (spec_ScriptFor.l4 k4 (x5_4 ++ [(⟨(y544 ++ x6_2), 0, 0, 1, 0⟩ : S28)]) x6_2 0) else (none)) else (none)) = some r := by first | (rw [hy544]; with_reducible exact H) | (have H2_ := (Option.bind_some _ _).symm.trans H; rw [hy544]; with_reducible exact H2_) | (have H2_ := (Option.bind_some _ _).symm.trans H; with_reducible exact H2_) | with_reducible exact H | (rw [hy544]; exact H) | exact H
                 have Ny544 := aM hy544
                 clear hy544
                 by_cases c63 : y544.length + x6_2.length < 17592186044416
                 ·rw [if_pos c63] at H
                  have LMc63 := aM c63
                  clear c63
                  obtain ⟨y547, hy547⟩ : ∃ y_ : List Int, y_ = (y544 ++ x6_2) := ⟨_, rfl⟩
                  replace H : (if x5_4.length < 2513169434916 then (spec_ScriptFor.l4 k4 (x5_4 ++ [(⟨y547, 0, 0, 1, 0⟩ : S28)]) x6_2 0) else (none)) = some r := by first | (rw [hy547]; with_reducible exact H) | (have H2_ := (Option.bind_some _ _).symm.trans H; rw [hy547]; with_reducible exact H2_) | (have H2_ := (Option.bind_some _ _).symm.trans H; with_reducible exact H2_) | with_reducible exact H | (rw [hy547]; exact H) | exact H
                  have Ny547 := aM hy547
                  clear hy547
                  by_cases c64 : x5_4.length < 2513169434916
                  ·rw [if_pos c64] at H
                   have LMc64 := aM c64
                   clear c64
                   obtain ⟨y550, hy550⟩ : ∃ y_ : List (S28), y_ = (x5_4 ++ [(⟨y547, 0, 0, 1, 0⟩ : S28)]) := ⟨_, rfl⟩
                   replace H : (spec_ScriptFor.l4 k4 y550 x6_2 0) = some r := by first | (rw [hy550]; with_reducible exact H) | (have H2_ := (Option.bind_some _ _).symm.trans H; rw [hy550]; with_reducible exact H2_) | (have H2_ := (Option.bind_some _ _).symm.trans H; with_reducible exact H2_) | with_reducible exact H | (rw [hy550]; exact H) | exact H
                   have Ny550 := aM hy550
                   clear hy550
                   have H' := aM H
                   clear H
                   go_wp2_with (first | ((with_reducible refine gate_dst (N := 91) rfl ?_); refine Kd.R_lit (Kd.int .i64) _ 3 ?hg (N := 91) ?hd (xs := ([] : List Int)) (inner := []) (ok := fun _ => True) (okp := fun _ => True) ?hr ?hp (fun _ hk => hk) trivial (Below.refl _ _) (Nat.le_refl _) (by simp) ?_; (case hd => rfl); (case hg => rfl); (case hr => first | (go_simp; done) | (go_simp; rfl)); (case hp => exact (Reps.none _ _)); intro v545 w65 ho66 hb hg_ hnew_; clear hg_ hnew_; (first | rw [← Ny544.out] at ho66 | (simp only [Int.reduceToNat] at ho66; rw [← Ny544.out] at ho66)); replace HO_5 := aM (Kd.N_elder' (by (with_reducible repeat (first | apply Kd.N_alloc | apply Kd.N_drewN | apply Kd.N_drew)); exact HO_5.out) (Kd.R_base ho66) hb); have HO546 := aM (Kd.R_lower (Kd.R_new' (Kd.R_newM (M := fun k_ => (w.heap.size ≤ k_)) ho66 (below_size zH) (fun k_ h_ => h_)) (Kd.R_lt (by (with_reducible repeat (first | apply Kd.R_alloc | apply Kd.R_drewN | apply Kd.R_drew)); exact HO_6.out))) (below_size zH)); replace HO_6 := aM (Kd.R_elder' (by (with_reducible repeat (first | apply Kd.R_alloc | apply Kd.R_drewN | apply Kd.R_drew)); exact HO_6.out) (Kd.R_base ho66) hb); replace BK496 := cB BK496 hb; replace HB := cH HB hb; clear hb ho66) | ((with_reducible refine gate_builtin (b := .append) (xs := #[.tmp 91, .tmp 92]) rfl ?_); at_builtin; refine Kd.R_append_rows (Kd.int .i64) (w0 := w) w.heap.size rfl (.tmp 91) (.tmp 92) 22 3 (.int .i64 0) 8 rfl Try.underlying22 info3 rfl (by decide) (by omega) v545 y544 x6_2 _ _ _ (fun k_ => (w.heap.size ≤ k_) ∧ some k_ ≠ (.slice Ao42 x6_2.length co42 : Value).ownBlock) (fun _ => False) rfl rfl ?aO ?aR (fun _ _ h => h) (fun _ h => h.elim) ?aF ?aB ?aS ?aL ?_; (case aR => exact zC (Kd.R_reads' HO_6.out).2.2); (case aB => exact zH); (case aF => exact (fun k_ hk => ⟨(Nat.le_trans (below_size zH) hk), Kd.fresh' (Kd.R_lt (by (with_reducible repeat (first | apply Kd.R_alloc | apply Kd.R_drewN | apply Kd.R_drew)); exact HO_6.out)) k_ hk⟩)); (case aO => exact (by (with_reducible repeat (first | apply Kd.R_alloc | apply Kd.R_drewN | apply Kd.R_drew)); exact Kd.R_mono HO546.out (fun _ hk => ⟨hk.1.1, hk.2⟩))); (case aS => exact (below_size zH)); (case aL => have := LMc63.out; omega); intro v548 w67 ho hb hg hat; rw [← Ny547.out] at ho; replace HO_5 := aM (Kd.N_afterv (ok := (fun k_ => (w.heap.size ≤ k_) ∧ some k_ ≠ (.slice Ao42 x6_2.length co42 : Value).ownBlock ∧ k_ ≠ gb496)) (by (with_reducible repeat (first | apply Kd.N_alloc | apply Kd.N_drewN | apply Kd.N_drew)); exact HO_5.out) hg hat); replace HO_6 := aM (Kd.R_after (ok := (fun k_ => (w.heap.size ≤ k_))) (by (with_reducible repeat (first | apply Kd.R_alloc | apply Kd.R_drewN | apply Kd.R_drew)); exact HO_6.out) hg hat); replace BK496 := aM (blk_grown (g := gb496) (o := .cells #[.int .i64 a0_0, .int .i64 a0_1, .int .i64 a0_2, .int .i64 a0_3, .slice A0_4 l0_4.length c0_4] 45 (0, 0)) (zK BK496) hg (Kd.R_ne HO546.out BK496.out (by decide))); replace HB := aM (hb); have HO549 := aM (ho); clear HO546; clear ho hb hg hat; obtain ⟨Ao68, co68, eo68⟩ := Kd.R_slice HO549.out; subst eo68) | ((with_reducible refine gate_builtin (b := .append) (xs := #[.tmp 90, .tmp 95]) rfl ?_); at_builtin; refine Kd.N_append k28 (w0 := w) w.heap.size rfl (.tmp 90) (.tmp 95) 46 28 (.agg #[(.slice none 0 0), (.int .i64 0), (.int .i64 0), (.int .i64 0), (.int .i64 0)]) 56 rfl Try.underlying46 info28 rfl (by decide) (by omega) u5 x5_4 (⟨y547, 0, 0, 1, 0⟩ : S28) [.slice Ao68 y547.length co68, .int .i64 0, .int .i64 0, .int .i64 1, .int .i64 0] (fun k_ => (w.heap.size ≤ k_) ∧ some k_ ≠ (.slice Ao42 x6_2.length co42 : Value).ownBlock ∧ k_ ≠ gb496) (fun k_ => ((fun k_ => (w.heap.size ≤ k_) ∧ some k_ ≠ (.slice Ao42 x6_2.length co42 : Value).ownBlock ∧ k_ ≠ gb496)) k_ ∧ some k_ ≠ (u5 : Value).ownBlock) rfl rfl ?aP (fun _ hk => hk) ?aF ?aO ?aB ?aS ?aL ?_; (case aP => exact (k28_mkF _ _ (⟨y547, 0, 0, 1, 0⟩ : S28) (Kd.R_reads' (Kd.R_mono (ok' := (fun k_ => ((fun k_ => (w.heap.size ≤ k_) ∧ some k_ ≠ (.slice Ao42 x6_2.length co42 : Value).ownBlock ∧ k_ ≠ gb496)) k_ ∧ some k_ ≠ (u5 : Value).ownBlock)) (Kd.R_types (Kd.R_apart' (HO549.out) (Kd.N_typed HO_5.out) (by decide)) BK496.out (by decide)) (fun k_ hk => ⟨⟨hk.1.1.1, ⟨hk.1.1.2, hk.2⟩⟩, hk.1.2⟩))).2.1 (Kd.R_F (Kd.R_mono (ok' := (fun k_ => ((fun k_ => (w.heap.size ≤ k_) ∧ some k_ ≠ (.slice Ao42 x6_2.length co42 : Value).ownBlock ∧ k_ ≠ gb496)) k_ ∧ some k_ ≠ (u5 : Value).ownBlock)) (Kd.R_types (Kd.R_apart' (HO549.out) (Kd.N_typed HO_5.out) (by decide)) BK496.out (by decide)) (fun k_ hk => ⟨⟨hk.1.1.1, ⟨hk.1.1.2, hk.2⟩⟩, hk.1.2⟩))))); (case aB => exact zH); (case aF => exact (fun k_ hk => ⟨(Nat.le_trans (below_size zH) hk), Kd.fresh' (Kd.R_lt (by (with_reducible repeat (first | apply Kd.R_alloc | apply Kd.R_drewN | apply Kd.R_drew)); exact HO_6.out)) k_ hk, Kd.freshB (g := gb496) (o := .cells #[.int .i64 a0_0, .int .i64 a0_1, .int .i64 a0_2, .int .i64 a0_3, .slice A0_4 l0_4.length c0_4] 45 (0, 0)) (zK BK496) k_ hk⟩)); (case aO => exact (by (with_reducible repeat (first | apply Kd.N_alloc | apply Kd.N_drewN | apply Kd.N_drew)); exact Kd.N_mono HO_5.out (fun _ hk => ⟨hk.1.1, ⟨hk.1.2.1, hk.1.2.2⟩⟩))); (case aS => exact (below_size zH)); (case aL => have := LMc64.out; omega); intro v551 w69 ho hb hg hat; rw [← Ny550.out] at ho; replace HO_6 := aM (Kd.R_over' (by (with_reducible repeat (first | apply Kd.R_alloc | apply Kd.R_drewN | apply Kd.R_drew)); exact HO_6.out) (Kd.N_typed (by (with_reducible repeat (first | apply Kd.N_alloc | apply Kd.N_drewN | apply Kd.N_drew)); exact HO_5.out)) (by decide) hg); replace BK496 := aM (blk_grown (g := gb496) (o := .cells #[.int .i64 a0_0, .int .i64 a0_1, .int .i64 a0_2, .int .i64 a0_3, .slice A0_4 l0_4.length c0_4] 45 (0, 0)) (zK BK496) hg (Kd.N_ne HO_5.out BK496.out (by decide))); replace HB := aM (hb); have HO552 := aM (ho); clear HO_5 HO549; clear ho hb hg hat))
                   go_loopg [5, 11] k4 (fun kq v5 v11 w' => ∃ (x5_5 : List (S28)) (x11_5 : Int), v11 = .int .i64 x11_5 ∧ Aside0 (spec_ScriptFor.l4 kq x5_5 x6_2 x11_5 = some r) ∧ Aside0 (kq ≤ k4) ∧ Aside0 (Kd.N k28 28 w' w.heap.size (fun k_ => (w.heap.size ≤ k_) ∧ some k_ ≠ ((.slice Ao42 x6_2.length co42) : Value).ownBlock ∧ k_ ≠ gb496) v5 x5_5) ∧ Aside0 (Kd.R (Kd.int .i64) 3 w' w.heap.size (fun k_ => (w.heap.size ≤ k_)) (.slice Ao42 x6_2.length co42) x6_2) ∧ Aside0 (w'.heap[gb496]? = some (.cells #[.int .i64 a0_0, .int .i64 a0_1, .int .i64 a0_2, .int .i64 a0_3, (.slice A0_4 l0_4.length c0_4)] 45 (0, 0))) ∧ Aside0 (Below w.heap.size w w'))
                   case atStart => exact ⟨(y550), (0), zS, H', ⟨Nat.le_refl _⟩, ⟨by (with_reducible repeat (first | apply Kd.N_alloc | apply Kd.N_drewN | apply Kd.N_drew)); exact HO552.out⟩, ⟨by (with_reducible repeat (first | apply Kd.R_alloc | apply Kd.R_drewN | apply Kd.R_drew)); exact Kd.R_mono HO_6.out (fun _ hk => hk.1)⟩, ⟨zK BK496⟩, ⟨zH⟩⟩
                   case round =>
                    clear H'
                    try clear c57b0
                    obtain ⟨x5_5, x11_5, rfl, HA, HK5, HO_5, HO_6, BK496, HB⟩ := hrel
                    cases gk with
                    | zero => exact absurd HA.out (by simp [spec_ScriptFor.l4])
                    | succ k5 =>
                     have H := HA.out
                     clear HA
                     simp only [spec_ScriptFor.l4] at H
                     by_cases c70 : x11_5 < (x6_2.length : Int)
                     ·rw [if_pos c70] at H
                      have c70b0 : decide (x11_5 < (x6_2.length : Int)) = true := decide_eq_true c70
                      clear c70
                      obtain ⟨y553, hy553⟩ : ∃ y_ : List Int, y_ = (([x11_5] : List Int)) := ⟨_, rfl⟩
                      replace H : (if x5_5.length < 2513169434916 then (spec_ScriptFor.l4 k5 (x5_5 ++ [(⟨y553, 1, 63, 1, 0⟩ : S28)]) x6_2 (wrap64 (x11_5 + 1))) else (none)) = some r := by first | (rw [hy553]; with_reducible exact H) | (have H2_ := (Option.bind_some _ _).symm.trans H; rw [hy553]; with_reducible exact H2_) | (have H2_ := (Option.bind_some _ _).symm.trans H; with_reducible exact H2_) | with_reducible exact H | (rw [hy553]; exact H) | exact H
                      have Ny553 := aM hy553
                      clear hy553
                      by_cases c71 : x5_5.length < 2513169434916
                      ·rw [if_pos c71] at H
                       have LMc71 := aM c71
                       clear c71
                       obtain ⟨y556, hy556⟩ : ∃ y_ : List (S28), y_ = (x5_5 ++ [(⟨y553, 1, 63, 1, 0⟩ : S28)]) := ⟨_, rfl⟩
                       replace H : (spec_ScriptFor.l4 k5 y556 x6_2 (wrap64 (x11_5 + 1))) = some r := by first | (rw [hy556]; with_reducible exact H) | (have H2_ := (Option.bind_some _ _).symm.trans H; rw [hy556]; with_reducible exact H2_) | (have H2_ := (Option.bind_some _ _).symm.trans H; with_reducible exact H2_) | with_reducible exact H | (rw [hy556]; exact H) | exact H
                       have Ny556 := aM hy556
                       clear hy556
                       have H' := aM H
                       clear H
                       go_wp2_with (first | ((with_reducible refine gate_dst (N := 105) rfl ?_); refine Kd.R_lit (Kd.int .i64) _ 3 ?hg (N := 105) ?hd (xs := ([x11_5] : List Int)) (inner := [.int .i64 x11_5]) (ok := fun _ => True) (okp := fun _ => True) ?hr ?hp (fun _ hk => hk) trivial (Below.refl _ _) (Nat.le_refl _) (by simp) ?_; (case hd => rfl); (case hg => rfl); (case hr => first | (go_simp; done) | (go_simp; rfl)); (case hp => exact (Reps.one (show Kd.M (Kd.int .i64) _ _ _ x11_5 [.int .i64 x11_5] from rfl) (Reps.none _ _))); intro v554 w72 ho73 hb hg_ hnew_; clear hg_ hnew_; (first | rw [← Ny553.out] at ho73 | (simp only [Int.reduceToNat] at ho73; rw [← Ny553.out] at ho73)); replace HO_5 := aM (Kd.N_elder' (by (with_reducible repeat (first | apply Kd.N_alloc | apply Kd.N_drewN | apply Kd.N_drew)); exact HO_5.out) (Kd.R_base ho73) hb); have HO555 := aM (Kd.R_lower (Kd.R_new' (Kd.R_newM (M := fun k_ => (w.heap.size ≤ k_)) ho73 (below_size zH) (fun k_ h_ => h_)) (Kd.R_lt (by (with_reducible repeat (first | apply Kd.R_alloc | apply Kd.R_drewN | apply Kd.R_drew)); exact HO_6.out))) (below_size zH)); replace HO_6 := aM (Kd.R_elder' (by (with_reducible repeat (first | apply Kd.R_alloc | apply Kd.R_drewN | apply Kd.R_drew)); exact HO_6.out) (Kd.R_base ho73) hb); replace BK496 := cB BK496 hb; replace HB := cH HB hb; clear hb ho73; obtain ⟨Ao74, co74, eo74⟩ := Kd.R_slice HO555.out; subst eo74) | ((with_reducible refine gate_builtin (b := .append) (xs := #[.tmp 103, .tmp 107]) rfl ?_); at_builtin; refine Kd.N_append k28 (w0 := w) w.heap.size rfl (.tmp 103) (.tmp 107) 46 28 (.agg #[(.slice none 0 0), (.int .i64 0), (.int .i64 0), (.int .i64 0), (.int .i64 0)]) 56 rfl Try.underlying46 info28 rfl (by decide) (by omega) u5 x5_5 (⟨y553, 1, 63, 1, 0⟩ : S28) [.slice Ao74 y553.length co74, .int .i64 1, .int .i64 63, .int .i64 1, .int .i64 0] (fun k_ => (w.heap.size ≤ k_) ∧ some k_ ≠ (.slice Ao42 x6_2.length co42 : Value).ownBlock ∧ k_ ≠ gb496) (fun k_ => ((fun k_ => (w.heap.size ≤ k_) ∧ some k_ ≠ (.slice Ao42 x6_2.length co42 : Value).ownBlock ∧ k_ ≠ gb496)) k_ ∧ some k_ ≠ (u5 : Value).ownBlock) rfl rfl ?aP (fun _ hk => hk) ?aF ?aO ?aB ?aS ?aL ?_; (case aP => exact (k28_mkF _ _ (⟨y553, 1, 63, 1, 0⟩ : S28) (Kd.R_reads' (Kd.R_mono (ok' := (fun k_ => ((fun k_ => (w.heap.size ≤ k_) ∧ some k_ ≠ (.slice Ao42 x6_2.length co42 : Value).ownBlock ∧ k_ ≠ gb496)) k_ ∧ some k_ ≠ (u5 : Value).ownBlock)) (Kd.R_types (Kd.R_apart' (HO555.out) (Kd.N_typed HO_5.out) (by decide)) BK496.out (by decide)) (fun k_ hk => ⟨⟨hk.1.1.1.1, ⟨hk.1.1.2, hk.2⟩⟩, hk.1.2⟩))).2.1 (Kd.R_F (Kd.R_mono (ok' := (fun k_ => ((fun k_ => (w.heap.size ≤ k_) ∧ some k_ ≠ (.slice Ao42 x6_2.length co42 : Value).ownBlock ∧ k_ ≠ gb496)) k_ ∧ some k_ ≠ (u5 : Value).ownBlock)) (Kd.R_types (Kd.R_apart' (HO555.out) (Kd.N_typed HO_5.out) (by decide)) BK496.out (by decide)) (fun k_ hk => ⟨⟨hk.1.1.1.1, ⟨hk.1.1.2, hk.2⟩⟩, hk.1.2⟩))))); (case aB => exact zH); (case aF => exact (fun k_ hk => ⟨(Nat.le_trans (below_size zH) hk), Kd.fresh' (Kd.R_lt (by (with_reducible repeat (first | apply Kd.R_alloc | apply Kd.R_drewN | apply Kd.R_drew)); exact HO_6.out)) k_ hk, Kd.freshB (g := gb496) (o := .cells #[.int .i64 a0_0, .int .i64 a0_1, .int .i64 a0_2, .int .i64 a0_3, .slice A0_4 l0_4.length c0_4] 45 (0, 0)) (zK BK496) k_ hk⟩)); (case aO => exact (by (with_reducible repeat (first | apply Kd.N_alloc | apply Kd.N_drewN | apply Kd.N_drew)); exact Kd.N_mono HO_5.out (fun _ hk => ⟨hk.1.1, ⟨hk.1.2.1, hk.1.2.2⟩⟩))); (case aS => exact (below_size zH)); (case aL => have := LMc71.out; omega); intro v557 w75 ho hb hg hat; rw [← Ny556.out] at ho; replace HO_6 := aM (Kd.R_over' (by (with_reducible repeat (first | apply Kd.R_alloc | apply Kd.R_drewN | apply Kd.R_drew)); exact HO_6.out) (Kd.N_typed (by (with_reducible repeat (first | apply Kd.N_alloc | apply Kd.N_drewN | apply Kd.N_drew)); exact HO_5.out)) (by decide) hg); replace BK496 := aM (blk_grown (g := gb496) (o := .cells #[.int .i64 a0_0, .int .i64 a0_1, .int .i64 a0_2, .int .i64 a0_3, .slice A0_4 l0_4.length c0_4] 45 (0, 0)) (zK BK496) hg (Kd.N_ne HO_5.out BK496.out (by decide))); replace HB := aM (hb); have HO558 := aM (ho); clear HO_5 HO555; clear ho hb hg hat))
                       go_roundg k5
                       case measure => have := HJ2.out; have := HK2.out; have := HK3.out; have := HK4.out; have := HK5.out; omega
                       case rel => exact ⟨(y556), (wrap64 (x11_5 + 1)), zS, H', ⟨by have := HJ2.out; have := HK2.out; have := HK3.out; have := HK4.out; have := HK5.out; omega⟩, ⟨by (with_reducible repeat (first | apply Kd.N_alloc | apply Kd.N_drewN | apply Kd.N_drew)); exact HO558.out⟩, ⟨by (with_reducible repeat (first | apply Kd.R_alloc | apply Kd.R_drewN | apply Kd.R_drew)); exact Kd.R_mono HO_6.out (fun _ hk => hk.1)⟩, ⟨zK BK496⟩, ⟨zH⟩⟩
                      ·rw [if_neg c71] at H
                       exact absurd H (by simp)
                     ·rw [if_neg c70] at H
                      have c70b0 : decide (x11_5 < (x6_2.length : Int)) = false := decide_eq_false c70
                      clear c70
                      obtain rfl := Option.some.inj H
                      go_wp2
                      go_ret
                      exact ⟨_, zR, by (with_reducible repeat (first | apply Kd.N_alloc | apply Kd.N_drewN | apply Kd.N_drew)); exact Kd.N_mono HO_5.out (fun _ hk => hk.1), zH⟩
                  ·rw [if_neg c64] at H
                   exact absurd H (by simp)
                 ·rw [if_neg c63] at H
                  exact absurd H (by simp)
          ·rw [if_neg c37] at H
           exact absurd H (by simp)
         ·rw [if_neg c36] at H
          exact absurd H (by simp)

end Go.Proofs.Ythajjjpblkhmmaa.CP
